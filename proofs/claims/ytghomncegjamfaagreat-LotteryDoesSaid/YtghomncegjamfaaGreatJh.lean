/- The calculus, part eight: what comes in: numbers, rows, strings in a row. -/
import Derived.Test.YtghomncegjamfaaGreatJg
import Derived.SliceStrings
import Derived.ChangeSlices
import GoSem.Claim
namespace Go.Proofs.YtghomncegjamfaaGreat
open Go.RowKit Go.WideShapes Go.ChangeShapes

theorem fits_wf {k : IntKind} {n : Int} (h : (Lit.int k n).wf = true) : fits k n := by
  simp only [Lit.wf, Bool.and_eq_true, decide_eq_true_eq] at h
  cases k <;> (simp only [IntKind.min, IntKind.max, IntKind.bits, IntKind.signed] at h; unfold fits; simp at h; omega)
/-- Strings in a row. -/
def Strs (w : World) (ad : Option Addr) (ps : List ByteArray) : Prop := ∀ i p, ps[i]? = some p → ∃ b o, ad = some ⟨b, o, none⟩ ∧ w.cell? ⟨b, o + i, none⟩ = some (.string p)
theorem Strs.keep {w w1 : World} {ad : Option Addr} {ps : List ByteArray} {H : List HA} (h : Strs w ad ps) (hw : Hp w [] H w1) : Strs w1 ad ps := fun i p hp => let ⟨b, o, e, hc⟩ := h i p hp; ⟨b, o, e, hw.cell hc (by simp)⟩
theorem Strs.of_row {w : World} {b m cap e : Nat} {ps : List ByteArray} (h : HA.ok w (.row (some ⟨b, 0, none⟩) m cap e 1 (ps.map Value.string))) : Strs w (some ⟨b, 0, none⟩) ps := fun i p hp => ⟨b, 0, rfl, by
  rw [Nat.zero_add]; exact row_cell h (by rw [List.getElem?_map, hp]; rfl)⟩
theorem Strs.of_own {w : World} {ad : Option Addr} {m cap e : Nat} {ps : List ByteArray} (h : HA.ok w (.row ad m cap e 1 (ps.map Value.string))) : Strs w ad ps := by
  rcases Nat.eq_zero_or_pos m with h0 | h0
  · have hl := row_len h
    subst h0
    have : ps = [] := by cases ps with
      | nil => rfl
      | cons p ps => simp at hl
    subst this
    intro i p hp; simp at hp
  · obtain ⟨b, rfl⟩ := row_some h h0
    exact Strs.of_row h
theorem strs_none (w : World) : Strs w none [] := fun i p h => by simp at h
section
variable {H : Type} {enc : TypeId × Value → H} {P : Program} {w : World} {base : Nat} {spare : Nat → Bool} {held : Bool}
theorem open_strs {t e : TypeId} {fuel : Nat} {x : DataW H × List MemPlace} {ad : Option Addr} {l c : Nat} (ht : P.underlying t = some (.slice e)) (he : P.underlying e = some .string) (hc : P.cellsOf e = 1)
    (h : DataW.trod enc P w base spare held fuel t (Value.slice ad l c).cells.toList = some x) : ∃ ps : List ByteArray, l = ps.length ∧ Strs w ad ps := by
  rcases open_strings ht he hc h with ⟨hcs, _⟩ | ⟨a, len, cap, ss, hcs, _, hl, hm, hss, _, hcell, _⟩
  · simp [Value.cells] at hcs
    obtain ⟨rfl, rfl, rfl⟩ := hcs
    exact ⟨[], rfl, strs_none w⟩
  · simp [Value.cells] at hcs
    obtain ⟨rfl, rfl, rfl⟩ := hcs
    have hlen : l ≤ ss.length := by rw [hss]; split <;> omega
    refine ⟨ss.take l, by rw [List.length_take]; omega, fun i p hp => ?_⟩
    have hi : i < ss.length := by have := (List.getElem?_eq_some_iff.1 hp).1; rw [List.length_take] at this; omega
    have h1 := hcell i hi
    have h2 : ss.getD i ByteArray.empty = p := by
      rw [List.getElem?_take] at hp
      split at hp
      · rw [List.getD_eq_getElem?_getD, hp]; rfl
      · cases hp
    rw [h2] at h1
    obtain ⟨b, o, spot⟩ := a
    have hspot : spot = none := by
      have := World.cell?_spot (hcell 0 (by omega))
      simpa [Addr.add] using this
    subst hspot
    refine ⟨b, o, rfl, ?_⟩
    rw [← addr_add]; exact h1
end
/-- A row lies there. -/
def Old (w : World) (b o : Nat) (vs : List Value) : Prop := ∀ j u, vs[j]? = some u → w.cell? ⟨b, o + j, none⟩ = some u
theorem Old.of_row {w : World} {b m cap e : Nat} {vs : List Value} (h : HA.ok w (.row (some ⟨b, 0, none⟩) m cap e 1 vs)) : Old w b 0 vs := fun j u hj => by rw [Nat.zero_add]; exact row_cell h hj
theorem Old.of_cells {w : World} {b : Nat} {vs : List Value} (h : HA.ok w (.cells b vs)) : Old w b 0 vs := fun j u hj => by rw [Nat.zero_add]; exact ((h : Cells w b vs).cell j).trans hj
theorem Old.drop {w : World} {b o : Nat} {vs : List Value} (h : Old w b o vs) (k : Nat) : Old w b (o + k) (vs.drop k) := fun j u hj => by
  rw [Nat.add_assoc]; exact h (k + j) u (by rw [List.getElem?_drop] at hj; exact hj)
theorem Old.take {w : World} {b o : Nat} {vs : List Value} (h : Old w b o vs) (k : Nat) : Old w b o (vs.take k) := fun j u hj => h j u (by
  rw [List.getElem?_take] at hj
  split at hj
  · exact hj
  · cases hj)
theorem Old.keep {w w1 : World} {b o : Nat} {vs : List Value} {H : List HA} (h : Old w b o vs) (hw : Hp w [] H w1) : Old w1 b o vs := fun j u hj => hw.cell (h j u hj) (by simp)
theorem map_get (k : IntKind) (l : List Int) (i : Nat) (h : i < l.length) : (l.map (Value.int k))[i]? = some (.int k (l.getD i 0)) := by
  simp [List.getD_eq_getElem?_getD, h]
theorem map_set (k : IntKind) (l : List Int) (i : Nat) (x : Int) : (l.map (Value.int k)).set i (.int k x) = (l.set i x).map (Value.int k) := by simp [List.map_set]
theorem Old.at {w : World} {b o : Nat} {k : IntKind} {l : List Int} (h : Old w b o (l.map (Value.int k))) (i : Nat) (hi : i < l.length) : w.cell? ⟨b, o + i, none⟩ = some (.int k (l.getD i 0)) := h i _ (map_get k l i hi)

/-! ### Short forms: what is alike from step to step is found by itself -/
section
variable {P : Program} {n : Nat} {Q : Exit → Act → World → Prop} {W : World → Prop} {E : Env} {ops : Array Oper} {rest tail : List Oper} {o : Oper} {d : Nat} {v : Value} {w0 : World} {S : List Nat} {H H' : List HA} {f : Nat} {args : Array Value} {C : World → Prop} {rs : List (Oper × Bool)}
theorem jy (hy : Yields P n E W o v) (k : JL P n Q W ops rest ((d, v) :: E)) (hd : o.dst = some d := by rfl) (hn : d < n := by decide) (hg : want ops E o = some true := by rfl) : JL P n Q W ops (o :: rest) E := jl_y hd hn hg hy k
theorem jz (k : JL P n Q W ops rest ((d, v) :: E)) (hd : o.dst = some d := by rfl) (hn : d < n := by decide) (hg : want ops E o = some true := by rfl) (hy : Yields P n E W o v := by first | exact y_move rfl | exact y_assign rfl | exact y_fieldAddr rfl | exact y_fieldAddr_agg rfl | exact y_nilCheck rfl | exact y_nilCheck_func rfl | exact y_extract rfl rfl | exact y_not rfl | exact y_load rfl (by first | exact mem0 | exact mem1 | exact mem2 | exact mem3 | exact mem4 | exact mem5 | exact .tail _ mem5 | exact .tail _ (.tail _ mem5)) rfl | exact y_load_row rfl (by first | exact mem0 | exact mem1 | exact mem2 | exact mem3 | exact mem4 | exact mem5 | exact .tail _ mem5 | exact .tail _ (.tail _ mem5)) rfl | exact y_load_old rfl (by assumption) (by simp) | exact y_loadAgg rfl (by first | exact mem0 | exact mem1 | exact mem2 | exact mem3 | exact mem4 | exact mem5 | exact .tail _ mem5 | exact .tail _ (.tail _ mem5)) (by repeat constructor) | exact y_loadAgg_row rfl (by first | exact mem0 | exact mem1 | exact mem2 | exact mem3 | exact mem4 | exact mem5 | exact .tail _ mem5 | exact .tail _ (.tail _ mem5)) rfl (by assumption) | exact y_loadAgg_old rfl rfl (by assumption) (by simp)) : JL P n Q W ops (o :: rest) E := jl_y hd hn hg hy k
theorem juy (hy : Yields P n E W o v) (k : JU P n Q W ops rest ((d, v) :: E)) (hd : o.dst = some d := by rfl) (hn : d < n := by decide) (hg : want ops E o = some true := by rfl) : JU P n Q W ops (o :: rest) E := ju_y hd hn hg hy k
theorem juz (k : JU P n Q W ops rest ((d, v) :: E)) (hd : o.dst = some d := by rfl) (hn : d < n := by decide) (hg : want ops E o = some true := by rfl) (hy : Yields P n E W o v := by first | exact y_move rfl | exact y_assign rfl | exact y_fieldAddr rfl | exact y_fieldAddr_agg rfl | exact y_nilCheck rfl | exact y_nilCheck_func rfl | exact y_extract rfl rfl | exact y_not rfl | exact y_load rfl (by first | exact mem0 | exact mem1 | exact mem2 | exact mem3 | exact mem4 | exact mem5 | exact .tail _ mem5 | exact .tail _ (.tail _ mem5)) rfl | exact y_load_row rfl (by first | exact mem0 | exact mem1 | exact mem2 | exact mem3 | exact mem4 | exact mem5 | exact .tail _ mem5 | exact .tail _ (.tail _ mem5)) rfl | exact y_load_old rfl (by assumption) (by simp) | exact y_loadAgg rfl (by first | exact mem0 | exact mem1 | exact mem2 | exact mem3 | exact mem4 | exact mem5 | exact .tail _ mem5 | exact .tail _ (.tail _ mem5)) (by repeat constructor) | exact y_loadAgg_row rfl (by first | exact mem0 | exact mem1 | exact mem2 | exact mem3 | exact mem4 | exact mem5 | exact .tail _ mem5 | exact .tail _ (.tail _ mem5)) rfl (by assumption) | exact y_loadAgg_old rfl rfl (by assumption) (by simp)) : JU P n Q W ops (o :: rest) E := ju_y hd hn hg hy k
theorem jty (hy : Yields P n E W o v) (k : JT P n Q W ops tail rest ((d, v) :: E)) (hd : o.dst = some d := by rfl) (hn : d < n := by decide) (hg : want ops E o = some true := by rfl) : JT P n Q W ops tail (o :: rest) E := jt_y hd hn hg hy k
theorem jtz (k : JT P n Q W ops tail rest ((d, v) :: E)) (hd : o.dst = some d := by rfl) (hn : d < n := by decide) (hg : want ops E o = some true := by rfl) (hy : Yields P n E W o v := by first | exact y_move rfl | exact y_assign rfl | exact y_fieldAddr rfl | exact y_fieldAddr_agg rfl | exact y_nilCheck rfl | exact y_nilCheck_func rfl | exact y_extract rfl rfl | exact y_not rfl | exact y_load rfl (by first | exact mem0 | exact mem1 | exact mem2 | exact mem3 | exact mem4 | exact mem5 | exact .tail _ mem5 | exact .tail _ (.tail _ mem5)) rfl | exact y_load_row rfl (by first | exact mem0 | exact mem1 | exact mem2 | exact mem3 | exact mem4 | exact mem5 | exact .tail _ mem5 | exact .tail _ (.tail _ mem5)) rfl | exact y_load_old rfl (by assumption) (by simp) | exact y_loadAgg rfl (by first | exact mem0 | exact mem1 | exact mem2 | exact mem3 | exact mem4 | exact mem5 | exact .tail _ mem5 | exact .tail _ (.tail _ mem5)) (by repeat constructor) | exact y_loadAgg_row rfl (by first | exact mem0 | exact mem1 | exact mem2 | exact mem3 | exact mem4 | exact mem5 | exact .tail _ mem5 | exact .tail _ (.tail _ mem5)) rfl (by assumption) | exact y_loadAgg_old rfl rfl (by assumption) (by simp)) : JT P n Q W ops tail (o :: rest) E := jt_y hd hn hg hy k
theorem jky (hy : Yields P n E C o v) (k : JS P n Q C W ops tail rs ((d, v) :: E)) (hd : o.dst = some d := by rfl) (hn : d < n := by decide) (hg : want ops E o = some true := by rfl) : JS P n Q C W ops tail ((o, true) :: rs) E := js_take hd hn hg hy k
theorem jkz (k : JS P n Q C W ops tail rs ((d, v) :: E)) (hd : o.dst = some d := by rfl) (hn : d < n := by decide) (hg : want ops E o = some true := by rfl) (hy : Yields P n E C o v := by first | exact y_move rfl | exact y_assign rfl | exact y_fieldAddr rfl | exact y_fieldAddr_agg rfl | exact y_nilCheck rfl | exact y_nilCheck_func rfl | exact y_extract rfl rfl | exact y_not rfl | exact y_load rfl (by first | exact mem0 | exact mem1 | exact mem2 | exact mem3 | exact mem4 | exact mem5 | exact .tail _ mem5 | exact .tail _ (.tail _ mem5)) rfl | exact y_load_row rfl (by first | exact mem0 | exact mem1 | exact mem2 | exact mem3 | exact mem4 | exact mem5 | exact .tail _ mem5 | exact .tail _ (.tail _ mem5)) rfl | exact y_load_old rfl (by assumption) (by simp) | exact y_loadAgg rfl (by first | exact mem0 | exact mem1 | exact mem2 | exact mem3 | exact mem4 | exact mem5 | exact .tail _ mem5 | exact .tail _ (.tail _ mem5)) (by repeat constructor) | exact y_loadAgg_row rfl (by first | exact mem0 | exact mem1 | exact mem2 | exact mem3 | exact mem4 | exact mem5 | exact .tail _ mem5 | exact .tail _ (.tail _ mem5)) rfl (by assumption) | exact y_loadAgg_old rfl rfl (by assumption) (by simp)) : JS P n Q C W ops tail ((o, true) :: rs) E := js_take hd hn hg hy k
theorem jsk (k : JL P n Q W ops rest ((d, undef) :: E)) (hd : o.dst = some d := by rfl) (hn : d < n := by decide) (hg : want ops E o = some false := by rfl) : JL P n Q W ops (o :: rest) E := jl_skip hd hn hg k
theorem jst (k : JL P n Q (Hp w0 S H') ops rest E) (hd : o.dst = none := by rfl) (hg : want ops E o = some true := by rfl) (hy : Writes P n E (Hp w0 S H) o (Hp w0 S H') := by first | exact w_store_lit rfl rfl rfl (by first | exact rep0 | exact rep1 | exact rep2 | exact rep3 | exact rep4 | exact .tail rep4 | exact .tail (.tail rep4) | exact .tail (.tail (.tail rep4))) (by repeat constructor) | exact w_storeAgg rfl rfl rfl rfl (by first | exact rep0 | exact rep1 | exact rep2 | exact rep3 | exact rep4 | exact .tail rep4 | exact .tail (.tail rep4) | exact .tail (.tail (.tail rep4))) (by repeat constructor)) : JL P n Q (Hp w0 S H) ops (o :: rest) E := jl_w hd hg hy k
theorem jpc (hf : Goes P n E o f args) (hc : ∀ w, Hp w0 S H w → Calls P f args w fun e w' => e = .returned v ∧ Ch [] w w') (k : JL P n Q (Hp w0 S H) ops rest ((d, v) :: E)) (hd : o.dst = some d := by rfl) (hn : d < n := by decide) (hg : want ops E o = some true := by rfl) : JL P n Q (Hp w0 S H) ops (o :: rest) E := jl_pcall hd hn hg hf (fun w hw => pcall hw (hc w hw)) k
theorem juc {A A' : HA} (hf : Goes P n E o f args) (hc : ∀ w, A.ok w → Calls P f args w fun e w' => e = .returned v ∧ Upd w w' A A') (k : JL P n Q (Hp w0 S H') ops rest ((d, v) :: E)) (hd : o.dst = some d := by rfl) (hn : d < n := by decide) (hg : want ops E o = some true := by rfl) (hA : A'.foot = A.foot := by rfl) (r : Rep A A' H H' := by first | exact rep0 | exact rep1 | exact rep2 | exact rep3 | exact rep4 | exact .tail rep4 | exact .tail (.tail rep4)) : JL P n Q (Hp w0 S H) ops (o :: rest) E := jl_ucall hd hn hg hf hA hc r k
theorem jnt {c : Code} (h : JC P n Q W c E) : JL P n (Exit.then (c.wp P Q) Q) W ops [] E := jl_nil (jq_then h)
theorem jsr {y : Code} {id : Nat} {l : List Oper} (h : JL P n (Exit.then (y.wp P Q) Q) W l.toArray l E) : JC P n Q W (.seq (.region id l.toArray false) y) E := jc_seq (jc_region h)
theorem jus (k : JU P n Q W ops rest ((d, undef) :: E)) (hd : o.dst = some d := by rfl) (hn : d < n := by decide) (hg : want ops E o = some false := by rfl) : JU P n Q W ops (o :: rest) E := ju_skip hd hn hg k
theorem jts (k : JT P n Q W ops tail rest ((d, undef) :: E)) (hd : o.dst = some d := by rfl) (hn : d < n := by decide) (hg : want ops E o = some false := by rfl) : JT P n Q W ops tail (o :: rest) E := jt_skip hd hn hg k
end
section
variable {P : Program} {n : Nat} {E : Env} {W : World → Prop} {dd : Option Tmp} {T T' ty : Nat} {pos : String} {af : Array Edge} {g : Option (Nat × Bool)} {x y : Operand} {k : IntKind} {p q : Int}
theorem yaf (hx : ev E x = some (.int k p)) (hy : ev E y = some (.int k q)) (h : fits k (p + q) := by simp only [fits]; omega) : Yields P n E W ⟨dd, .binOp .add T x y T', ty, pos, af, g⟩ (.int k (p + q)) := y_add_fits hx hy h
theorem ysf (hx : ev E x = some (.int k p)) (hy : ev E y = some (.int k q)) (h : fits k (p - q) := by simp only [fits]; omega) : Yields P n E W ⟨dd, .binOp .sub T x y T', ty, pos, af, g⟩ (.int k (p - q)) := y_sub_fits hx hy h
theorem yis {e b o l c : Nat} {size bytes : Nat} {zv : List Value} [hT : TSlice P T e] [hI : TInfo P e size bytes zv] (hx : ev E x = some (.slice (some ⟨b, o, none⟩) l c)) (hy : ev E y = some (.int k p)) (h0 : 0 ≤ p := by omega) (h1 : p < l := by omega) {off : Nat} (he : o + p.toNat * size = off := by simp only [Int.toNat_natCast, Int.reduceSub, Int.reduceAdd, Int.reduceToNat, Nat.reduceMul, Nat.reduceAdd, Nat.zero_add, Nat.mul_one, Nat.zero_mul, Nat.add_zero]; exact rfl) :
    Yields P n E W ⟨dd, .indexAddr T x y, ty, pos, af, g⟩ (.pointer (some ⟨b, off, none⟩)) := y_indexAddr_slice hx hy h0 h1 he
theorem yia {m e b o : Nat} {size bytes : Nat} {zv : List Value} [hT : TArr P T m e] [hI : TInfo P e size bytes zv] (hx : ev E x = some (.pointer (some ⟨b, o, none⟩))) (hy : ev E y = some (.int k p)) (h0 : 0 ≤ p := by omega) (h1 : p < m := by omega) {off : Nat} (he : o + p.toNat * size = off := by simp only [Int.toNat_natCast, Int.reduceSub, Int.reduceAdd, Int.reduceToNat, Nat.reduceMul, Nat.reduceAdd, Nat.zero_add, Nat.mul_one, Nat.zero_mul, Nat.add_zero]; exact rfl) :
    Yields P n E W ⟨dd, .indexAddr T x y, ty, pos, af, g⟩ (.pointer (some ⟨b, off, none⟩)) := y_indexAddr_arr hx hy h0 h1 he
theorem rca {t T : Nat} {ad : Addr} {v : Value} {rs : List ResultVar} {vs : List Value} (r : Res P E W rs vs) (h : lk E t = some (.pointer (some ad)) := by rfl) (hl : ∀ w, W w → (loadVar T ad).run P w = .ok v w := by first | exact ld_agg (by first | exact mem0 | exact mem1 | exact mem2 | exact mem3 | exact mem4 | exact mem5) (by repeat constructor) | exact ld_agg (by first | exact mem0 | exact mem1 | exact mem2 | exact mem3 | exact mem4 | exact mem5) (by assumption)) : Res P E W (.cell t T :: rs) (v :: vs) := .cell h hl r
end
end Go.Proofs.YtghomncegjamfaaGreat
