/- What comes in: proofs and terms. Printed by program (walk.py). -/
import Derived.Test.YtddpoigfliaklaaGreatJt
import Derived.Test.YtddpoigfliaklaaGreatNw
namespace Go.Proofs.YtddpoigfliaklaaGreat
open Go.RowKit Go.WideShapes Go.ChangeShapes Go.WideMaps
set_option maxRecDepth 100000
theorem len5 {α : Type} {z : List α} (h : z.length = 5) : ∃ a b c d e, z = [a, b, c, d, e] := by match z, h with | [a, b, c, d, e], _ => exact ⟨a, b, c, d, e, rfl⟩
section
variable {H : Type} {enc : TypeId × Value → H} {w : World} {base : Nat} {spare : Nat → Bool} {held : Bool} {fuel : Nat} {cs : List Value} {x : DataW H × List MemPlace}

theorem op_tk (h : DataW.trod enc Tryz.prog w base spare held fuel 24 cs = some x) : ∃ o : Tk, cs = Tk.c o ∧ o.Fit := by
  have ht := Tryz.underlying24
  have hl : cs.length = 8 := (fld_len ht h).trans (by kernel_rfl)
  obtain ⟨c0, c1, c2, c3, c4, c5, c6, c7, rfl⟩ := len8 hl
  obtain ⟨chan, rfl⟩ := fld_str (ty := 9) ht h (i := 0) rfl rfl rfl TStr.h (by kernel_rfl) rfl
  obtain ⟨serial, rfl, fserial⟩ := fld_int (ty := 22) ht h (i := 1) rfl rfl rfl TInt.h (by kernel_rfl) rfl
  obtain ⟨face, rfl, fface⟩ := fld_int (ty := 22) ht h (i := 2) rfl rfl rfl TInt.h (by kernel_rfl) rfl
  obtain ⟨wins, rfl, fwins⟩ := fld_int (ty := 22) ht h (i := 3) rfl rfl rfl TInt.h (by kernel_rfl) rfl
  obtain ⟨many, rfl, fmany⟩ := fld_int (ty := 22) ht h (i := 4) rfl rfl rfl TInt.h (by kernel_rfl) rfl
  obtain ⟨commit, rfl⟩ := fld_str (ty := 9) ht h (i := 5) rfl rfl rfl TStr.h (by kernel_rfl) rfl
  obtain ⟨client, rfl, fclient⟩ := fld_int (ty := 22) ht h (i := 6) rfl rfl rfl TInt.h (by kernel_rfl) rfl
  obtain ⟨sig, rfl⟩ := fld_str (ty := 9) ht h (i := 7) rfl rfl rfl TStr.h (by kernel_rfl) rfl
  exact ⟨⟨chan, serial, face, wins, many, commit, client, sig⟩, rfl, ⟨fserial, fface, fwins, fmany, fclient⟩⟩
theorem op_wn (h : DataW.trod enc Tryz.prog w base spare held fuel 26 cs = some x) : ∃ o : Wn, cs = Wn.c o ∧ o.Fit := by
  have ht := Tryz.underlying26
  have hl : cs.length = 10 := (fld_len ht h).trans (by kernel_rfl)
  obtain ⟨c0, c1, c2, c3, c4, c5, c6, c7, c8, c9, rfl⟩ := len10 hl
  obtain ⟨_, _, h0⟩ := fld_sub (us := [c0, c1, c2, c3, c4, c5, c6, c7]) ht h (i := 0) rfl rfl rfl (m := 8) (by kernel_rfl) rfl
  obtain ⟨t, e0, ft⟩ := op_tk h0
  simp only [Tk.c, List.cons.injEq, and_true] at e0
  obtain ⟨rfl, rfl, rfl, rfl, rfl, rfl, rfl, rfl⟩ := e0
  obtain ⟨salt, rfl⟩ := fld_str (ty := 9) ht h (i := 1) rfl rfl rfl TStr.h (by kernel_rfl) rfl
  obtain ⟨drawn, rfl, fdrawn⟩ := fld_int (ty := 22) ht h (i := 2) rfl rfl rfl TInt.h (by kernel_rfl) rfl
  exact ⟨⟨t, salt, drawn⟩, rfl, ⟨ft, fdrawn⟩⟩
theorem op_tm (h : DataW.trod enc Tryz.prog w base spare held fuel 65 cs = some x) : ∃ o : Tm, cs = Tm.c o ∧ o.Fit := by
  have ht := Tryz.underlying65
  have hl : cs.length = 5 := (fld_len ht h).trans (by kernel_rfl)
  obtain ⟨c0, c1, c2, c3, c4, rfl⟩ := len5 hl
  obtain ⟨chan, rfl⟩ := fld_str (ty := 9) ht h (i := 0) rfl rfl rfl TStr.h (by kernel_rfl) rfl
  obtain ⟨client, rfl⟩ := fld_str (ty := 9) ht h (i := 1) rfl rfl rfl TStr.h (by kernel_rfl) rfl
  obtain ⟨anchor, rfl⟩ := fld_str (ty := 9) ht h (i := 2) rfl rfl rfl TStr.h (by kernel_rfl) rfl
  obtain ⟨unit, rfl, funit⟩ := fld_int (ty := 22) ht h (i := 3) rfl rfl rfl TInt.h (by kernel_rfl) rfl
  obtain ⟨tokens, rfl, ftokens⟩ := fld_int (ty := 3) ht h (i := 4) rfl rfl rfl TInt.h (by kernel_rfl) rfl
  exact ⟨⟨chan, client, anchor, unit, tokens⟩, rfl, ⟨funit, ftokens⟩⟩
theorem op_pf (h : DataW.trod enc Tryz.prog w base spare held fuel 46 cs = some x) : ∃ (p : Pf) (a3 : Option Addr) (c3 : Nat), cs = Pf.c p a3 c3 ∧ p.Fit ∧ ElAt w a3 10 (p.wins.map Wn.c) := by
  have ht := Tryz.underlying46
  have hl : cs.length = 4 := (fld_len ht h).trans (by kernel_rfl)
  obtain ⟨c0, c1, c2, c3, rfl⟩ := len4 hl
  obtain ⟨amount, rfl, famount⟩ := fld_int (ty := 22) ht h (i := 0) rfl rfl rfl TInt.h (by kernel_rfl) rfl
  obtain ⟨sig, rfl⟩ := fld_str (ty := 9) ht h (i := 1) rfl rfl rfl TStr.h (by kernel_rfl) rfl
  obtain ⟨token, rfl⟩ := fld_str (ty := 9) ht h (i := 2) rfl rfl rfl TStr.h (by kernel_rfl) rfl
  obtain ⟨a3, l3, p3, rfl, els3, hl3, hE3, hx3⟩ := fld_slice (ty := 44) ht h (i := 3) rfl rfl rfl TSlice.h (by kernel_rfl) (Nat.lt_of_lt_of_eq (by decide : 0 < 10) (show 10 = Tryz.prog.cellsOf 26 by kernel_rfl)) rfl
  obtain ⟨wins, rfl, fwins⟩ := els_of (c := Wn.c) (F := fun o => o.Fit) fun cs hcs => let ⟨_, _, _, h2⟩ := hx3 cs hcs; op_wn h2
  obtain rfl : wins.length = l3 := by rw [← hl3, List.length_map]
  rw [show Tryz.prog.cellsOf 26 = 10 by kernel_rfl] at hE3
  exact ⟨⟨amount, sig, token, wins⟩, a3, p3, rfl, ⟨famount, fwins⟩, hE3⟩

end
end Go.Proofs.YtddpoigfliaklaaGreat