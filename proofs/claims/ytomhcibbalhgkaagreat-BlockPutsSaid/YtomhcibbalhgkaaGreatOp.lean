/- What comes in: blocks of coins and proofs. Printed by program (walk.py). -/
import Derived.Test.YtomhcibbalhgkaaGreatJt
import Derived.Test.YtomhcibbalhgkaaGreatCa
import Derived.Test.YtomhcibbalhgkaaGreatJv
namespace Go.Proofs.YtomhcibbalhgkaaGreat
open Go.RowKit Go.WideShapes Go.ChangeShapes Go.WideMaps
set_option maxRecDepth 100000
theorem len3 {α : Type} {z : List α} (h : z.length = 3) : ∃ a b c, z = [a, b, c] := by match z, h with | [a, b, c], _ => exact ⟨a, b, c, rfl⟩
section
variable {H : Type} {enc : TypeId × Value → H} {w : World} {base : Nat} {spare : Nat → Bool} {held : Bool} {fuel : Nat} {cs : List Value} {x : DataW H × List MemPlace}

theorem op_pnt (h : DataW.trod enc Tryz.prog w base spare held fuel 43 cs = some x) : ∃ o : {p : Pnt // fits .i64 p.out}, cs = (fun o : {p : Pnt // fits .i64 p.out} => Pnt.c o.1) o ∧ True := by
  have ht := Tryz.underlying43
  have hl : cs.length = 2 := (fld_len ht h).trans (by kernel_rfl)
  obtain ⟨c0, c1, rfl⟩ := len2 hl
  obtain ⟨tx, rfl⟩ := fld_str (ty := 9) ht h (i := 0) rfl rfl rfl TStr.h (by kernel_rfl) rfl
  obtain ⟨out, rfl, fout⟩ := fld_int (ty := 3) ht h (i := 1) rfl rfl rfl TInt.h (by kernel_rfl) rfl
  exact ⟨⟨⟨tx, out⟩, fout⟩, rfl, trivial⟩
theorem op_inp (h : DataW.trod enc Tryz.prog w base spare held fuel 97 cs = some x) : ∃ o : Inp, cs = Inp.c o ∧ o.Fit := by
  have ht := Tryz.underlying97
  have hl : cs.length = 4 := (fld_len ht h).trans (by kernel_rfl)
  obtain ⟨c0, c1, c2, c3, rfl⟩ := len4 hl
  obtain ⟨_, _, h0⟩ := fld_sub (us := [c0, c1]) ht h (i := 0) rfl rfl rfl (m := 2) (by kernel_rfl) rfl
  obtain ⟨pt, e0, fpt⟩ := op_pnt h0
  simp only [Pnt.c, List.cons.injEq, and_true] at e0
  obtain ⟨rfl, rfl⟩ := e0
  obtain ⟨path, rfl, fpath⟩ := fld_int (ty := 3) ht h (i := 1) rfl rfl rfl TInt.h (by kernel_rfl) rfl
  obtain ⟨sig, rfl⟩ := fld_str (ty := 9) ht h (i := 2) rfl rfl rfl TStr.h (by kernel_rfl) rfl
  exact ⟨⟨pt.1, path, sig⟩, rfl, ⟨pt.2, fpath⟩⟩
theorem op_oup (h : DataW.trod enc Tryz.prog w base spare held fuel 56 cs = some x) : ∃ o : Oup, cs = Oup.c o ∧ o.Fit := by
  have ht := Tryz.underlying56
  have hl : cs.length = 9 := (fld_len ht h).trans (by kernel_rfl)
  obtain ⟨c0, c1, c2, c3, c4, c5, c6, c7, c8, rfl⟩ := len9 hl
  obtain ⟨kind, rfl, fkind⟩ := fld_int (ty := 3) ht h (i := 0) rfl rfl rfl TInt.h (by kernel_rfl) rfl
  obtain ⟨amount, rfl, famount⟩ := fld_int (ty := 48) ht h (i := 1) rfl rfl rfl TInt.h (by kernel_rfl) rfl
  obtain ⟨key, rfl⟩ := fld_str (ty := 9) ht h (i := 2) rfl rfl rfl TStr.h (by kernel_rfl) rfl
  obtain ⟨gate, rfl⟩ := fld_str (ty := 9) ht h (i := 3) rfl rfl rfl TStr.h (by kernel_rfl) rfl
  obtain ⟨expiry, rfl, fexpiry⟩ := fld_int (ty := 3) ht h (i := 4) rfl rfl rfl TInt.h (by kernel_rfl) rfl
  obtain ⟨anchor, rfl⟩ := fld_str (ty := 9) ht h (i := 5) rfl rfl rfl TStr.h (by kernel_rfl) rfl
  obtain ⟨unit, rfl, funit⟩ := fld_int (ty := 48) ht h (i := 6) rfl rfl rfl TInt.h (by kernel_rfl) rfl
  obtain ⟨tokens, rfl, ftokens⟩ := fld_int (ty := 3) ht h (i := 7) rfl rfl rfl TInt.h (by kernel_rfl) rfl
  obtain ⟨of, rfl⟩ := fld_str (ty := 9) ht h (i := 8) rfl rfl rfl TStr.h (by kernel_rfl) rfl
  exact ⟨⟨kind, amount, key, gate, expiry, anchor, unit, tokens, of⟩, rfl, ⟨fkind, famount, fexpiry, funit, ftokens⟩⟩
theorem op_tk (h : DataW.trod enc Tryz.prog w base spare held fuel 133 cs = some x) : ∃ o : Tk, cs = Tk.c o ∧ o.Fit := by
  have ht := Tryz.underlying133
  have hl : cs.length = 8 := (fld_len ht h).trans (by kernel_rfl)
  obtain ⟨c0, c1, c2, c3, c4, c5, c6, c7, rfl⟩ := len8 hl
  obtain ⟨chan, rfl⟩ := fld_str (ty := 9) ht h (i := 0) rfl rfl rfl TStr.h (by kernel_rfl) rfl
  obtain ⟨serial, rfl, fserial⟩ := fld_int (ty := 48) ht h (i := 1) rfl rfl rfl TInt.h (by kernel_rfl) rfl
  obtain ⟨face, rfl, fface⟩ := fld_int (ty := 48) ht h (i := 2) rfl rfl rfl TInt.h (by kernel_rfl) rfl
  obtain ⟨wins, rfl, fwins⟩ := fld_int (ty := 48) ht h (i := 3) rfl rfl rfl TInt.h (by kernel_rfl) rfl
  obtain ⟨many, rfl, fmany⟩ := fld_int (ty := 48) ht h (i := 4) rfl rfl rfl TInt.h (by kernel_rfl) rfl
  obtain ⟨commit, rfl⟩ := fld_str (ty := 9) ht h (i := 5) rfl rfl rfl TStr.h (by kernel_rfl) rfl
  obtain ⟨client, rfl, fclient⟩ := fld_int (ty := 48) ht h (i := 6) rfl rfl rfl TInt.h (by kernel_rfl) rfl
  obtain ⟨sig, rfl⟩ := fld_str (ty := 9) ht h (i := 7) rfl rfl rfl TStr.h (by kernel_rfl) rfl
  exact ⟨⟨chan, serial, face, wins, many, commit, client, sig⟩, rfl, ⟨fserial, fface, fwins, fmany, fclient⟩⟩
theorem op_wn (h : DataW.trod enc Tryz.prog w base spare held fuel 135 cs = some x) : ∃ o : Wn, cs = Wn.c o ∧ o.Fit := by
  have ht := Tryz.underlying135
  have hl : cs.length = 10 := (fld_len ht h).trans (by kernel_rfl)
  obtain ⟨c0, c1, c2, c3, c4, c5, c6, c7, c8, c9, rfl⟩ := len10 hl
  obtain ⟨_, _, h0⟩ := fld_sub (us := [c0, c1, c2, c3, c4, c5, c6, c7]) ht h (i := 0) rfl rfl rfl (m := 8) (by kernel_rfl) rfl
  obtain ⟨t, e0, ft⟩ := op_tk h0
  simp only [Tk.c, List.cons.injEq, and_true] at e0
  obtain ⟨rfl, rfl, rfl, rfl, rfl, rfl, rfl, rfl⟩ := e0
  obtain ⟨salt, rfl⟩ := fld_str (ty := 9) ht h (i := 1) rfl rfl rfl TStr.h (by kernel_rfl) rfl
  obtain ⟨drawn, rfl, fdrawn⟩ := fld_int (ty := 48) ht h (i := 2) rfl rfl rfl TInt.h (by kernel_rfl) rfl
  exact ⟨⟨t, salt, drawn⟩, rfl, ⟨ft, fdrawn⟩⟩
theorem op_pf (h : DataW.trod enc Tryz.prog w base spare held fuel 51 cs = some x) : ∃ (p : Pf) (a3 : Option Addr) (c3 : Nat), cs = Pf.c p a3 c3 ∧ p.Fit ∧ ElAt w a3 10 (p.wins.map Wn.c) := by
  have ht := Tryz.underlying51
  have hl : cs.length = 4 := (fld_len ht h).trans (by kernel_rfl)
  obtain ⟨c0, c1, c2, c3, rfl⟩ := len4 hl
  obtain ⟨amount, rfl, famount⟩ := fld_int (ty := 48) ht h (i := 0) rfl rfl rfl TInt.h (by kernel_rfl) rfl
  obtain ⟨sig, rfl⟩ := fld_str (ty := 9) ht h (i := 1) rfl rfl rfl TStr.h (by kernel_rfl) rfl
  obtain ⟨token, rfl⟩ := fld_str (ty := 9) ht h (i := 2) rfl rfl rfl TStr.h (by kernel_rfl) rfl
  obtain ⟨a3, l3, p3, rfl, els3, hl3, hE3, hx3⟩ := fld_slice (ty := 49) ht h (i := 3) rfl rfl rfl TSlice.h (by kernel_rfl) (Nat.lt_of_lt_of_eq (by decide : 0 < 10) (show 10 = Tryz.prog.cellsOf 135 by kernel_rfl)) rfl
  obtain ⟨wins, rfl, fwins⟩ := els_of (c := Wn.c) (F := fun o => o.Fit) fun cs hcs => let ⟨_, _, _, h2⟩ := hx3 cs hcs; op_wn h2
  obtain rfl : wins.length = l3 := by rw [← hl3, List.length_map]
  rw [show Tryz.prog.cellsOf 135 = 10 by kernel_rfl] at hE3
  exact ⟨⟨amount, sig, token, wins⟩, a3, p3, rfl, ⟨famount, fwins⟩, hE3⟩
theorem op_tx (h : DataW.trod enc Tryz.prog w base spare held fuel 53 cs = some x) : ∃ (t : Trx) (a1 : Option Addr) (c1 : Nat) (a2 : Option Addr) (c2 : Nat) (a3 : Option Addr) (c3 : Nat), cs = Trx.c t a1 c1 a2 c2 a3 c3 ∧ t.Fit ∧ ElAt w a1 4 (t.ins.map Inp.c) ∧ ElAt w a2 9 (t.outs.map Oup.c) ∧ ElAt w a3 10 (t.pf.wins.map Wn.c) := by
  have ht := Tryz.underlying53
  have hl : cs.length = 6 := (fld_len ht h).trans (by kernel_rfl)
  obtain ⟨c0, c1, c2, c3, c4, c5, rfl⟩ := len6 hl
  obtain ⟨a1, l1, p1, rfl, els1, hl1, hE1, hx1⟩ := fld_slice (ty := 47) ht h (i := 0) rfl rfl rfl TSlice.h (by kernel_rfl) (Nat.lt_of_lt_of_eq (by decide : 0 < 4) (show 4 = Tryz.prog.cellsOf 97 by kernel_rfl)) rfl
  obtain ⟨ins, rfl, fins⟩ := els_of (c := Inp.c) (F := fun o => o.Fit) fun cs hcs => let ⟨_, _, _, h2⟩ := hx1 cs hcs; op_inp h2
  obtain rfl : ins.length = l1 := by rw [← hl1, List.length_map]
  rw [show Tryz.prog.cellsOf 97 = 4 by kernel_rfl] at hE1
  obtain ⟨a2, l2, p2, rfl, els2, hl2, hE2, hx2⟩ := fld_slice (ty := 25) ht h (i := 1) rfl rfl rfl TSlice.h (by kernel_rfl) (Nat.lt_of_lt_of_eq (by decide : 0 < 9) (show 9 = Tryz.prog.cellsOf 56 by kernel_rfl)) rfl
  obtain ⟨outs, rfl, fouts⟩ := els_of (c := Oup.c) (F := fun o => o.Fit) fun cs hcs => let ⟨_, _, _, h2⟩ := hx2 cs hcs; op_oup h2
  obtain rfl : outs.length = l2 := by rw [← hl2, List.length_map]
  rw [show Tryz.prog.cellsOf 56 = 9 by kernel_rfl] at hE2
  obtain ⟨_, _, h3⟩ := fld_sub (us := [c2, c3, c4, c5]) ht h (i := 2) rfl rfl rfl (m := 4) (by kernel_rfl) rfl
  obtain ⟨pf, a3, p3, e3, fpf, hE3⟩ := op_pf h3
  simp only [Pf.c, List.cons.injEq, and_true] at e3
  obtain ⟨rfl, rfl, rfl, rfl⟩ := e3
  exact ⟨⟨ins, outs, pf⟩, a1, p1, a2, p2, a3, p3, rfl, ⟨fins, fouts, fpf⟩, hE1, hE2, hE3⟩
theorem open_oups {t : Nat} {ad : Option Addr} {l c : Nat} (ht : Tryz.prog.underlying t = some (.slice 56)) (h : DataW.trod enc Tryz.prog w base spare held fuel t (Value.slice ad l c).cells.toList = some x) : ∃ xs : List Oup, l = xs.length ∧ (∀ o ∈ xs, o.Fit) ∧ ElAt w ad 9 (xs.map Oup.c) := by
  obtain ⟨els, h2, h3, h4⟩ := open_els ht (Nat.lt_of_lt_of_eq (by decide : 0 < 9) (show 9 = Tryz.prog.cellsOf 56 by kernel_rfl)) h
  obtain ⟨xs, rfl, hf⟩ := els_of (c := Oup.c) (F := fun o => o.Fit) fun cs hcs => let ⟨_, _, _, h5⟩ := h4 cs hcs; op_oup h5
  rw [show Tryz.prog.cellsOf 56 = 9 by kernel_rfl] at h3
  exact ⟨xs, by rw [← h2, List.length_map], hf, h3⟩

theorem op_blk (h : DataW.trod enc Tryz.prog w base spare held fuel 24 cs = some x) : ∃ q : Blq, cs = Blq.c q ∧ q.b.Fit ∧ TxsAt w q.ad q.l := by
  have ht := Tryz.underlying24
  have hl : cs.length = 3 := (fld_len ht h).trans (by kernel_rfl)
  obtain ⟨c0, c1, c2, rfl⟩ := len3 hl
  obtain ⟨height, rfl, fheight⟩ := fld_int (ty := 3) ht h (i := 0) rfl rfl rfl TInt.h (by kernel_rfl) rfl
  obtain ⟨prev, rfl⟩ := fld_str (ty := 9) ht h (i := 1) rfl rfl rfl TStr.h (by kernel_rfl) rfl
  obtain ⟨a2, l2, p2, rfl, els2, hl2, hE2, hx2⟩ := fld_slice (ty := 22) ht h (i := 2) rfl rfl rfl TSlice.h (by kernel_rfl) (Nat.lt_of_lt_of_eq (by decide : 0 < 6) (show 6 = Tryz.prog.cellsOf 53 by kernel_rfl)) rfl
  obtain ⟨txs, rfl, ftxs⟩ := els_of (c := Txq.c) (F := fun q => q.t.Fit ∧ q.At w) fun cs hcs => let ⟨_, _, _, h2⟩ := hx2 cs hcs; by
    obtain ⟨t, a1, c1, a2, c2, a3, c3, e, h3, h4, h5, h6⟩ := op_tx h2
    exact ⟨⟨t, a1, c1, a2, c2, a3, c3⟩, e, h3, h4, h5, h6⟩
  obtain rfl : txs.length = l2 := by rw [← hl2, List.length_map]
  rw [show Tryz.prog.cellsOf 53 = 6 by kernel_rfl] at hE2
  refine ⟨⟨height, prev, txs, a2, p2⟩, rfl, ⟨fheight, fun t ht => ?_⟩, hE2, fun q hq => (ftxs q hq).2⟩
  obtain ⟨y, hy, rfl⟩ := List.mem_map.1 ht
  exact (ftxs y hy).1

end
end Go.Proofs.YtomhcibbalhgkaaGreat