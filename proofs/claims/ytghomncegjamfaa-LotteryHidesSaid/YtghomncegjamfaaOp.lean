/- What comes in: offers, tickets, calls. Printed by program (walk.py). -/
import Derived.Test.YtghomncegjamfaaJt
import Derived.Test.YtghomncegjamfaaLt
namespace Go.Proofs.Ytghomncegjamfaa
open Go.RowKit Go.WideShapes Go.ChangeShapes Go.WideMaps
set_option maxRecDepth 100000
section
variable {H : Type} {enc : TypeId × Value → H} {P : Program} {w : World} {base : Nat} {spare : Nat → Bool} {held : Bool} {fuel : Nat} {t : TypeId} {cs : List Value} {x : DataW H × List MemPlace} {fs : Array Field}
theorem fld_bool {ty o : Nat} {c : Value} (ht : P.underlying t = some (.struct fs)) (h : DataW.trod enc P w base spare held fuel t cs = some x) {i : Nat} {f : Field} (hf : fs[i]? = some f) (hty : f.type = ty) (ho : f.offset = o) (hk : P.underlying ty = some .bool) (h1 : P.cellsOf ty = 1) (hc : cs[o]? = some c) : ∃ s, c = .bool s := by
  subst hty; subst ho
  obtain ⟨y, n, h2⟩ := fld ht h hf
  obtain ⟨s, e, _⟩ := DataW.trod_bool hk h2
  rw [h1] at e
  exact ⟨s, one_cell hc e⟩
end
theorem len19 {α : Type} {z : List α} (h : z.length = 19) : ∃ a b c d e f g k l m n o p q r s t u v, z = [a, b, c, d, e, f, g, k, l, m, n, o, p, q, r, s, t, u, v] := by match z, h with | [a, b, c, d, e, f, g, k, l, m, n, o, p, q, r, s, t, u, v], _ => exact ⟨a, b, c, d, e, f, g, k, l, m, n, o, p, q, r, s, t, u, v, rfl⟩
section
variable {H : Type} {enc : TypeId × Value → H} {w : World} {base : Nat} {spare : Nat → Bool} {held : Bool} {fuel : Nat} {cs : List Value} {x : DataW H × List MemPlace}

theorem op_tk (h : DataW.trod enc Try.prog w base spare held fuel 37 cs = some x) : ∃ o : Tk, cs = Tk.c o ∧ o.Fit := by
  have ht := Try.underlying37
  have hl : cs.length = 8 := (fld_len ht h).trans (by kernel_rfl)
  obtain ⟨c0, c1, c2, c3, c4, c5, c6, c7, rfl⟩ := len8 hl
  obtain ⟨chan, rfl⟩ := fld_str (ty := 9) ht h (i := 0) rfl rfl rfl TStr.h (by kernel_rfl) rfl
  obtain ⟨serial, rfl, fserial⟩ := fld_int (ty := 22) ht h (i := 1) rfl rfl rfl TInt.h (by kernel_rfl) rfl
  obtain ⟨face, rfl, fface⟩ := fld_int (ty := 22) ht h (i := 2) rfl rfl rfl TInt.h (by kernel_rfl) rfl
  obtain ⟨wins, rfl, fwins⟩ := fld_int (ty := 22) ht h (i := 3) rfl rfl rfl TInt.h (by kernel_rfl) rfl
  obtain ⟨many, rfl, fmany⟩ := fld_int (ty := 22) ht h (i := 4) rfl rfl rfl TInt.h (by kernel_rfl) rfl
  obtain ⟨commit, rfl⟩ := fld_str (ty := 9) ht h (i := 5) rfl rfl rfl TStr.h (by kernel_rfl) rfl
  obtain ⟨client, rfl, fclient⟩ := fld_int (ty := 22) ht h (i := 6) rfl rfl rfl TInt.h (by kernel_rfl) rfl
  obtain ⟨sig, rfl⟩ := fld_str (ty := 9) ht h (i := 7) rfl rfl rfl TStr.h (by kernel_rfl) rfl
  exact ⟨⟨chan, serial, face, wins, many, commit, client, sig⟩, rfl, ⟨fserial, fface, fwins, fmany, fclient⟩⟩
theorem op_of (h : DataW.trod enc Try.prog w base spare held fuel 33 cs = some x) : ∃ o : Of, cs = Of.c o ∧ o.Fit := by
  have ht := Try.underlying33
  have hl : cs.length = 9 := (fld_len ht h).trans (by kernel_rfl)
  obtain ⟨c0, c1, c2, c3, c4, c5, c6, c7, c8, rfl⟩ := len9 hl
  obtain ⟨chan, rfl⟩ := fld_str (ty := 9) ht h (i := 0) rfl rfl rfl TStr.h (by kernel_rfl) rfl
  obtain ⟨serial, rfl, fserial⟩ := fld_int (ty := 22) ht h (i := 1) rfl rfl rfl TInt.h (by kernel_rfl) rfl
  obtain ⟨face, rfl, fface⟩ := fld_int (ty := 22) ht h (i := 2) rfl rfl rfl TInt.h (by kernel_rfl) rfl
  obtain ⟨wins, rfl, fwins⟩ := fld_int (ty := 22) ht h (i := 3) rfl rfl rfl TInt.h (by kernel_rfl) rfl
  obtain ⟨many, rfl, fmany⟩ := fld_int (ty := 22) ht h (i := 4) rfl rfl rfl TInt.h (by kernel_rfl) rfl
  obtain ⟨commit, rfl⟩ := fld_str (ty := 9) ht h (i := 5) rfl rfl rfl TStr.h (by kernel_rfl) rfl
  obtain ⟨salt, rfl⟩ := fld_str (ty := 9) ht h (i := 6) rfl rfl rfl TStr.h (by kernel_rfl) rfl
  obtain ⟨drawn, rfl, fdrawn⟩ := fld_int (ty := 22) ht h (i := 7) rfl rfl rfl TInt.h (by kernel_rfl) rfl
  obtain ⟨taken, rfl⟩ := fld_bool (ty := 4) ht h (i := 8) rfl rfl rfl TBool.h (by kernel_rfl) rfl
  exact ⟨⟨chan, serial, face, wins, many, commit, salt, drawn, taken⟩, rfl, ⟨fserial, fface, fwins, fmany, fdrawn⟩⟩
end
end Go.Proofs.Ytghomncegjamfaa