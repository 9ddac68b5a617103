/- What comes in: the calls of a script. Printed by program (walk.py). -/
import Derived.Test.YtghomncegjamfaaGreatJq
import Derived.Test.YtghomncegjamfaaGreatMe
namespace Go.Proofs.YtghomncegjamfaaGreat
open Go.RowKit Go.WideShapes Go.ChangeShapes Go.WideMaps

section
variable {H : Type} {enc : TypeId × Value → H} {P : Program} {w : World} {base : Nat} {spare : Nat → Bool} {held : Bool} {fuel : Nat} {t : TypeId} {cs : List Value} {x : DataW H × List MemPlace} {fs : Array Field}
theorem fld (ht : P.underlying t = some (.struct fs)) (h : DataW.trod enc P w base spare held fuel t cs = some x) {i : Nat} {f : Field} (hf : fs[i]? = some f) : ∃ y n, DataW.trod enc P w base spare held n f.type ((cs.drop f.offset).take (P.cellsOf f.type)) = some y := by
  obtain ⟨xs, n, _, _, _, hl, hg⟩ := DataW.trod_struct ht h
  have hi := (Array.getElem?_eq_some_iff.1 hf).1
  have h1 := hg i f hf
  rw [List.getElem?_eq_getElem (by omega)] at h1
  exact ⟨_, n, h1⟩
theorem fld_len (ht : P.underlying t = some (.struct fs)) (h : DataW.trod enc P w base spare held fuel t cs = some x) : cs.length = P.cellsOf t := by
  obtain ⟨xs, n, _, _, hl, _, _⟩ := DataW.trod_struct ht h
  exact hl
theorem one_cell {l : List Value} {o : Nat} {c v : Value} (hc : l[o]? = some c) (h : (l.drop o).take 1 = [v]) : c = v := by
  have := congrArg (·[0]?) h
  simp [List.getElem?_take, List.getElem?_drop, hc] at this
  exact this
theorem fld_int {k : IntKind} {ty o : Nat} {c : Value} (ht : P.underlying t = some (.struct fs)) (h : DataW.trod enc P w base spare held fuel t cs = some x) {i : Nat} {f : Field} (hf : fs[i]? = some f) (hty : f.type = ty) (ho : f.offset = o) (hk : P.underlying ty = some (.int k)) (h1 : P.cellsOf ty = 1) (hc : cs[o]? = some c) : ∃ n, c = .int k n ∧ fits k n := by
  subst hty; subst ho
  obtain ⟨y, n, h2⟩ := fld ht h hf
  obtain ⟨a, e, _, wa⟩ := DataW.trod_int hk h2
  rw [h1] at e
  exact ⟨a, one_cell hc e, fits_wf wa⟩
theorem fld_str {ty o : Nat} {c : Value} (ht : P.underlying t = some (.struct fs)) (h : DataW.trod enc P w base spare held fuel t cs = some x) {i : Nat} {f : Field} (hf : fs[i]? = some f) (hty : f.type = ty) (ho : f.offset = o) (hk : P.underlying ty = some .string) (h1 : P.cellsOf ty = 1) (hc : cs[o]? = some c) : ∃ s, c = .string s := by
  subst hty; subst ho
  obtain ⟨y, n, h2⟩ := fld ht h hf
  obtain ⟨s, e, _, _⟩ := DataW.trod_string hk h2
  rw [h1] at e
  exact ⟨s, one_cell hc e⟩
theorem fld_sub {ty o m : Nat} {us : List Value} (ht : P.underlying t = some (.struct fs)) (h : DataW.trod enc P w base spare held fuel t cs = some x) {i : Nat} {f : Field} (hf : fs[i]? = some f) (hty : f.type = ty) (ho : f.offset = o) (h1 : P.cellsOf ty = m) (hc : (cs.drop o).take m = us) : ∃ y n, DataW.trod enc P w base spare held n ty us = some y := by
  subst hty; subst ho; subst h1; subst hc
  exact fld ht h hf
theorem fld_slice {ty o e : Nat} {c : Value} (ht : P.underlying t = some (.struct fs)) (h : DataW.trod enc P w base spare held fuel t cs = some x) {i : Nat} {f : Field} (hf : fs[i]? = some f) (hty : f.type = ty) (ho : f.offset = o) (hk : P.underlying ty = some (.slice e)) (h1 : P.cellsOf ty = 1) (he : 0 < P.cellsOf e) (hc : cs[o]? = some c) :
    ∃ ad l cp, c = .slice ad l cp ∧ ∃ els : List (List Value), els.length = l ∧ ElAt w ad (P.cellsOf e) els ∧ ∀ cs ∈ els, cs.length = P.cellsOf e ∧ ∃ fuel y, DataW.trod enc P w base spare held fuel e cs = some y := by
  subst hty; subst ho
  obtain ⟨y, n, h2⟩ := fld ht h hf
  have hs : ∃ ad l cp, (cs.drop f.offset).take (P.cellsOf f.type) = [.slice ad l cp] := by
    rcases DataW.trod_slice hk h2 with ⟨e1, _⟩ | ⟨a, len, cap, _, _, _, _, e1, _⟩
    · exact ⟨none, 0, 0, e1⟩
    · exact ⟨some a, len, cap, e1⟩
  obtain ⟨ad, l, cp, e1⟩ := hs
  rw [e1] at h2
  rw [h1] at e1
  exact ⟨ad, l, cp, one_cell hc e1, open_els hk he h2⟩
/-- Elements of a kind. -/
theorem els_of {α : Type} {c : α → List Value} {F : α → Prop} {els : List (List Value)} (h : ∀ cs ∈ els, ∃ o, cs = c o ∧ F o) : ∃ l : List α, els = l.map c ∧ ∀ o ∈ l, F o := by
  induction els with
  | nil => exact ⟨[], rfl, fun o ho => by cases ho⟩
  | cons cs els ih =>
    obtain ⟨o, rfl, ho⟩ := h cs (.head _)
    obtain ⟨l, rfl, hl⟩ := ih fun u hu => h u (.tail _ hu)
    exact ⟨o :: l, rfl, fun z hz => by
      rcases List.mem_cons.1 hz with rfl | hz
      · exact ho
      · exact hl z hz⟩
/-- A struct that comes in, as cells. -/
theorem open_agg {r : Reach} {b0 : Nat} {v : Value} {d : DataW H} {ps : List MemPlace} (ht : P.underlying t = some (.struct fs)) (hval : Value.okWide P w r b0 t v) (hd : DataW.Trod enc P w base spare held t v d ps) : ∃ us fuel, v = .agg us.toArray ∧ DataW.trod enc P w base spare held fuel t us = some (d, ps) := by
  simp only [Value.okWide, ht] at hval
  obtain ⟨cs, rfl, _, _⟩ := hval
  obtain ⟨fuel, hf⟩ := hd
  exact ⟨cs.toList, fuel, by simp, hf⟩
theorem len2 {α : Type} {z : List α} (h : z.length = 2) : ∃ a b, z = [a, b] := by match z, h with | [a, b], _ => exact ⟨a, b, rfl⟩
theorem len4 {α : Type} {z : List α} (h : z.length = 4) : ∃ a b c d, z = [a, b, c, d] := by match z, h with | [a, b, c, d], _ => exact ⟨a, b, c, d, rfl⟩
theorem len6 {α : Type} {z : List α} (h : z.length = 6) : ∃ a b c d e f, z = [a, b, c, d, e, f] := by match z, h with | [a, b, c, d, e, f], _ => exact ⟨a, b, c, d, e, f, rfl⟩
theorem len8 {α : Type} {z : List α} (h : z.length = 8) : ∃ a b c d e f g k, z = [a, b, c, d, e, f, g, k] := by match z, h with | [a, b, c, d, e, f, g, k], _ => exact ⟨a, b, c, d, e, f, g, k, rfl⟩
theorem len9 {α : Type} {z : List α} (h : z.length = 9) : ∃ a b c d e f g k l, z = [a, b, c, d, e, f, g, k, l] := by match z, h with | [a, b, c, d, e, f, g, k, l], _ => exact ⟨a, b, c, d, e, f, g, k, l, rfl⟩
theorem len10 {α : Type} {z : List α} (h : z.length = 10) : ∃ a b c d e f g k l m, z = [a, b, c, d, e, f, g, k, l, m] := by match z, h with | [a, b, c, d, e, f, g, k, l, m], _ => exact ⟨a, b, c, d, e, f, g, k, l, m, rfl⟩
end
end Go.Proofs.YtghomncegjamfaaGreat

namespace Go.Proofs.YtghomncegjamfaaGreat
open Go.RowKit Go.WideShapes Go.ChangeShapes Go.WideMaps
set_option maxRecDepth 100000
section
variable {H : Type} {enc : TypeId × Value → H} {P : Program} {w : World} {base : Nat} {spare : Nat → Bool} {held : Bool} {fuel : Nat} {t : TypeId} {cs : List Value} {x : DataW H × List MemPlace} {fs : Array Field}
theorem fld_bool {ty o : Nat} {c : Value} (ht : P.underlying t = some (.struct fs)) (h : DataW.trod enc P w base spare held fuel t cs = some x) {i : Nat} {f : Field} (hf : fs[i]? = some f) (hty : f.type = ty) (ho : f.offset = o) (hk : P.underlying ty = some .bool) (h1 : P.cellsOf ty = 1) (hc : cs[o]? = some c) : ∃ s, c = .bool s := by
  subst hty; subst ho
  obtain ⟨y, n, h2⟩ := fld ht h hf
  obtain ⟨s, e, _⟩ := DataW.trod_bool hk h2
  rw [h1] at e
  exact ⟨s, one_cell hc e⟩
end
theorem len19 {α : Type} {z : List α} (h : z.length = 19) : ∃ a b c d e f g k l m n o p q r s t u v, z = [a, b, c, d, e, f, g, k, l, m, n, o, p, q, r, s, t, u, v] := by match z, h with | [a, b, c, d, e, f, g, k, l, m, n, o, p, q, r, s, t, u, v], _ => exact ⟨a, b, c, d, e, f, g, k, l, m, n, o, p, q, r, s, t, u, v, rfl⟩
section
variable {H : Type} {enc : TypeId × Value → H} {w : World} {base : Nat} {spare : Nat → Bool} {held : Bool} {fuel : Nat} {cs : List Value} {x : DataW H × List MemPlace}

theorem op_tk (h : DataW.trod enc Tryz.prog w base spare held fuel 34 cs = some x) : ∃ o : Tk, cs = Tk.c o ∧ o.Fit := by
  have ht := Tryz.underlying34
  have hl : cs.length = 8 := (fld_len ht h).trans (by kernel_rfl)
  obtain ⟨c0, c1, c2, c3, c4, c5, c6, c7, rfl⟩ := len8 hl
  obtain ⟨chan, rfl⟩ := fld_str (ty := 9) ht h (i := 0) rfl rfl rfl TStr.h (by kernel_rfl) rfl
  obtain ⟨serial, rfl, fserial⟩ := fld_int (ty := 30) ht h (i := 1) rfl rfl rfl TInt.h (by kernel_rfl) rfl
  obtain ⟨face, rfl, fface⟩ := fld_int (ty := 30) ht h (i := 2) rfl rfl rfl TInt.h (by kernel_rfl) rfl
  obtain ⟨wins, rfl, fwins⟩ := fld_int (ty := 30) ht h (i := 3) rfl rfl rfl TInt.h (by kernel_rfl) rfl
  obtain ⟨many, rfl, fmany⟩ := fld_int (ty := 30) ht h (i := 4) rfl rfl rfl TInt.h (by kernel_rfl) rfl
  obtain ⟨commit, rfl⟩ := fld_str (ty := 9) ht h (i := 5) rfl rfl rfl TStr.h (by kernel_rfl) rfl
  obtain ⟨client, rfl, fclient⟩ := fld_int (ty := 30) ht h (i := 6) rfl rfl rfl TInt.h (by kernel_rfl) rfl
  obtain ⟨sig, rfl⟩ := fld_str (ty := 9) ht h (i := 7) rfl rfl rfl TStr.h (by kernel_rfl) rfl
  exact ⟨⟨chan, serial, face, wins, many, commit, client, sig⟩, rfl, ⟨fserial, fface, fwins, fmany, fclient⟩⟩
theorem op_of (h : DataW.trod enc Tryz.prog w base spare held fuel 32 cs = some x) : ∃ o : Of, cs = Of.c o ∧ o.Fit := by
  have ht := Tryz.underlying32
  have hl : cs.length = 9 := (fld_len ht h).trans (by kernel_rfl)
  obtain ⟨c0, c1, c2, c3, c4, c5, c6, c7, c8, rfl⟩ := len9 hl
  obtain ⟨chan, rfl⟩ := fld_str (ty := 9) ht h (i := 0) rfl rfl rfl TStr.h (by kernel_rfl) rfl
  obtain ⟨serial, rfl, fserial⟩ := fld_int (ty := 30) ht h (i := 1) rfl rfl rfl TInt.h (by kernel_rfl) rfl
  obtain ⟨face, rfl, fface⟩ := fld_int (ty := 30) ht h (i := 2) rfl rfl rfl TInt.h (by kernel_rfl) rfl
  obtain ⟨wins, rfl, fwins⟩ := fld_int (ty := 30) ht h (i := 3) rfl rfl rfl TInt.h (by kernel_rfl) rfl
  obtain ⟨many, rfl, fmany⟩ := fld_int (ty := 30) ht h (i := 4) rfl rfl rfl TInt.h (by kernel_rfl) rfl
  obtain ⟨commit, rfl⟩ := fld_str (ty := 9) ht h (i := 5) rfl rfl rfl TStr.h (by kernel_rfl) rfl
  obtain ⟨salt, rfl⟩ := fld_str (ty := 9) ht h (i := 6) rfl rfl rfl TStr.h (by kernel_rfl) rfl
  obtain ⟨drawn, rfl, fdrawn⟩ := fld_int (ty := 30) ht h (i := 7) rfl rfl rfl TInt.h (by kernel_rfl) rfl
  obtain ⟨taken, rfl⟩ := fld_bool (ty := 4) ht h (i := 8) rfl rfl rfl TBool.h (by kernel_rfl) rfl
  exact ⟨⟨chan, serial, face, wins, many, commit, salt, drawn, taken⟩, rfl, ⟨fserial, fface, fwins, fmany, fdrawn⟩⟩
theorem op_opx (h : DataW.trod enc Tryz.prog w base spare held fuel 36 cs = some x) : ∃ o : Opx, cs = Opx.c o ∧ o.Fit := by
  have ht := Tryz.underlying36
  have hl : cs.length = 19 := (fld_len ht h).trans (by kernel_rfl)
  obtain ⟨c0, c1, c2, c3, c4, c5, c6, c7, c8, c9, c10, c11, c12, c13, c14, c15, c16, c17, c18, rfl⟩ := len19 hl
  obtain ⟨kind, rfl, fkind⟩ := fld_int (ty := 3) ht h (i := 0) rfl rfl rfl TInt.h (by kernel_rfl) rfl
  obtain ⟨_, _, h1⟩ := fld_sub (us := [c1, c2, c3, c4, c5, c6, c7, c8, c9]) ht h (i := 1) rfl rfl rfl (m := 9) (by kernel_rfl) rfl
  obtain ⟨oo, e1, foo⟩ := op_of h1
  simp only [Of.c, List.cons.injEq, and_true] at e1
  obtain ⟨rfl, rfl, rfl, rfl, rfl, rfl, rfl, rfl, rfl⟩ := e1
  obtain ⟨raw, rfl, fraw⟩ := fld_int (ty := 30) ht h (i := 2) rfl rfl rfl TInt.h (by kernel_rfl) rfl
  obtain ⟨_, _, h3⟩ := fld_sub (us := [c11, c12, c13, c14, c15, c16, c17, c18]) ht h (i := 3) rfl rfl rfl (m := 8) (by kernel_rfl) rfl
  obtain ⟨tt, e3, ftt⟩ := op_tk h3
  simp only [Tk.c, List.cons.injEq, and_true] at e3
  obtain ⟨rfl, rfl, rfl, rfl, rfl, rfl, rfl, rfl⟩ := e3
  exact ⟨⟨kind, oo, raw, tt⟩, rfl, ⟨fkind, foo, fraw, ftt⟩⟩
theorem open_ops {t : Nat} {ad : Option Addr} {l c : Nat} (ht : Tryz.prog.underlying t = some (.slice 36)) (h : DataW.trod enc Tryz.prog w base spare held fuel t (Value.slice ad l c).cells.toList = some x) : ∃ xs : List Opx, l = xs.length ∧ (∀ o ∈ xs, o.Fit) ∧ ElAt w ad 19 (xs.map Opx.c) := by
  obtain ⟨els, h2, h3, h4⟩ := open_els ht (Nat.lt_of_lt_of_eq (by decide : 0 < 19) (show 19 = Tryz.prog.cellsOf 36 by kernel_rfl)) h
  obtain ⟨xs, rfl, hf⟩ := els_of (c := Opx.c) (F := fun o => o.Fit) fun cs hcs => let ⟨_, _, _, h5⟩ := h4 cs hcs; op_opx h5
  rw [show Tryz.prog.cellsOf 36 = 19 by kernel_rfl] at h3
  exact ⟨xs, by rw [← h2, List.length_map], hf, h3⟩
end
end Go.Proofs.YtghomncegjamfaaGreat
