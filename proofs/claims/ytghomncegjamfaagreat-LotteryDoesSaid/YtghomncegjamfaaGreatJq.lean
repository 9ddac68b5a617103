/- The calculus, part fifteen: structs held against each other; maps that the call makes, with values of true. -/
import Derived.Test.YtghomncegjamfaaGreatJh
import Derived.WideKeyArr2
import Derived.ChangeSlices
import Derived.ChangeArms
import Derived.Test.YtghomncegjamfaaGreatJl
import Derived.Laws.StructEq
import Derived.MapKept
import Derived.Carry
namespace Go.Proofs.YtghomncegjamfaaGreat
open Go.RowKit Go.WideShapes Go.ChangeShapes Go.WideMaps

section
variable {H : Type} {enc : TypeId × Value → H} {P : Program} {k e : TypeId} {n : Nat} {q : IntKind} {W : World} {base : Nat} {sp : Nat → Bool} {held : Bool}
theorem mapM_ints (he : P.underlying e = some (.int q)) {m : Nat} {cs : List Value} : ∀ (L : List Nat) (xs : List (DataW H × List MemPlace)),
    L.mapM (fun i => DataW.trod enc P W base sp held m e ((cs.drop (i * 1)).take 1)) = some xs → ∀ i ∈ L, ∃ a, cs[i]? = some (.int q a) ∧ fits q a
  | [], _, _, i, hi => by cases hi
  | j :: L, xs, h, i, hi => by
    rw [List.mapM_cons] at h
    simp only [bind, Option.bind_eq_some_iff, pure, Option.some.injEq] at h
    obtain ⟨y, hy, ys, hys, rfl⟩ := h
    rcases List.mem_cons.1 hi with rfl | hi
    · obtain ⟨a, ea, _, wa⟩ := DataW.trod_int he hy
      refine ⟨a, ?_, fits_wf wa⟩
      have := congrArg (·[0]?) ea
      simpa [List.getElem?_take, List.getElem?_drop] using this
    · exact mapM_ints he L ys hys i hi
theorem ints_of {l : List Value} (h : ∀ v ∈ l, ∃ a, v = .int q a ∧ fits q a) : ∃ xs : List Int, l = xs.map (Value.int q) ∧ ∀ x ∈ xs, fits q x := by
  induction l with
  | nil => exact ⟨[], rfl, by simp⟩
  | cons v l ih =>
    obtain ⟨a, rfl, ha⟩ := h v (by simp)
    obtain ⟨xs, rfl, hx⟩ := ih (fun u hu => h u (by simp [hu]))
    exact ⟨a :: xs, rfl, by simpa using ⟨ha, hx⟩⟩
/-- An array of numbers. -/
theorem open_arrI (hu : P.underlying k = some (.array n e)) (he : P.underlying e = some (.int q)) (h1 : P.cellsOf e = 1) (hn : P.cellsOf k = n) {r : Reach} {b0 : Nat} {v : Value} {d : DataW H} {ps : List MemPlace} (hval : Value.okWide P W r b0 k v) (hd : DataW.Trod enc P W base sp held k v d ps) :
    ∃ xs : List Int, xs.length = n ∧ v = .agg (xs.map (Value.int q)).toArray ∧ ∀ x ∈ xs, fits q x := by
  have hv : ∃ cs : Array Value, v = .agg cs ∧ cs.size = n := by
    simp only [Value.okWide, hu] at hval
    obtain ⟨cs, e1, e2, _⟩ := hval
    exact ⟨cs, e1, by rw [e2, hn]⟩
  obtain ⟨cs, rfl, hs⟩ := hv
  obtain ⟨fuel, hf⟩ := hd
  cases fuel with
  | zero => simp [DataW.trod] at hf
  | succ m =>
    rw [DataW.trod_step] at hf
    unfold DataW.trodStep at hf
    simp only [hu, Value.cells] at hf
    rw [if_pos (by rw [hn]; simpa using hs)] at hf
    simp only [Option.map_eq_some_iff, h1] at hf
    obtain ⟨xs, hx, _⟩ := hf
    have hall := mapM_ints he _ xs hx
    obtain ⟨zs, hz, hzf⟩ := ints_of (q := q) (l := cs.toList) (fun v hv => by
      obtain ⟨i, hi, hiv⟩ := List.getElem_of_mem hv
      obtain ⟨a, ha, hfa⟩ := hall i (by rw [List.mem_range]; simpa [hs] using hi)
      rw [List.getElem?_eq_getElem hi, hiv] at ha
      exact ⟨a, Option.some.inj ha, hfa⟩)
    refine ⟨zs, ?_, ?_, hzf⟩
    · have := congrArg List.length hz
      simp at this
      omega
    · rw [← hz]
end
theorem list_two {α : Type} {z : List α} (h : z.length = 2) : ∃ a b, z = [a, b] := by
  match z, h with
  | [a, b], _ => exact ⟨a, b, rfl⟩
theorem list_three {α : Type} {z : List α} (h : z.length = 3) : ∃ a b c, z = [a, b, c] := by
  match z, h with
  | [a, b, c], _ => exact ⟨a, b, c, rfl⟩
theorem list_four {α : Type} {z : List α} (h : z.length = 4) : ∃ a b c d, z = [a, b, c, d] := by
  match z, h with
  | [a, b, c, d], _ => exact ⟨a, b, c, d, rfl⟩
end Go.Proofs.YtghomncegjamfaaGreat

namespace Go.Proofs.YtghomncegjamfaaGreat
open Go.RowKit Go.WideShapes Go.ChangeShapes Go.WideMaps

/-- Elements of so many cells, one behind the other. -/
def ElAt (w : World) (ad : Option Addr) (sz : Nat) (els : List (List Value)) : Prop := ∀ i cs, els[i]? = some cs → ∃ b o, ad = some ⟨b, o, none⟩ ∧ Old w b (o + i * sz) cs
theorem ElAt.keep {w w1 : World} {ad : Option Addr} {sz : Nat} {els : List (List Value)} {H : List HA} (h : ElAt w ad sz els) (hw : Hp w [] H w1) : ElAt w1 ad sz els := fun i cs hc => let ⟨b, o, e, h1⟩ := h i cs hc; ⟨b, o, e, h1.keep hw⟩
theorem open_els {H : Type} {enc : TypeId × Value → H} {P : Program} {w : World} {base : Nat} {spare : Nat → Bool} {held : Bool} {t e : TypeId} {fuel : Nat} {x : DataW H × List MemPlace} {ad : Option Addr} {l c : Nat} (ht : P.underlying t = some (.slice e)) (h1 : 0 < P.cellsOf e)
    (h : DataW.trod enc P w base spare held fuel t (Value.slice ad l c).cells.toList = some x) :
    ∃ els : List (List Value), els.length = l ∧ ElAt w ad (P.cellsOf e) els ∧ ∀ cs ∈ els, cs.length = P.cellsOf e ∧ ∃ fuel y, DataW.trod enc P w base spare held fuel e cs = some y := by
  rcases DataW.trod_slice ht h with ⟨hcs, _⟩ | ⟨a, len, cap, elems, rest, n, _, hcs, _, _, _, _, hlen, hel, _, _⟩
  · simp [Value.cells] at hcs
    obtain ⟨rfl, rfl, rfl⟩ := hcs
    exact ⟨[], rfl, fun i cs hi => by simp at hi, by simp⟩
  · simp [Value.cells] at hcs
    obtain ⟨rfl, rfl, rfl⟩ := hcs
    have each : ∀ i, i < l → ∃ cs y, w.cells? base (a.add (i * P.cellsOf e)) (P.cellsOf e) = some cs ∧ DataW.trod enc P w base spare held n e cs = some y := by
      intro i hi
      have h2 := hel i hi
      rw [List.getElem?_eq_getElem (by omega)] at h2
      obtain ⟨cs, h3, h4⟩ := Option.bind_eq_some_iff.1 h2
      exact ⟨cs, _, h3, h4⟩
    have cells : ∀ i cs, w.cells? base (a.add (i * P.cellsOf e)) (P.cellsOf e) = some cs → cs.length = P.cellsOf e ∧ ∀ j u, cs[j]? = some u → w.cell? ((a.add (i * P.cellsOf e)).add j) = some u := by
      intro i cs hc
      obtain ⟨h5, h6, h7⟩ := World.cells?_some hc
      refine ⟨h6, fun j u hj => ?_⟩
      have hl := (List.getElem?_eq_some_iff.1 hj).1
      rw [h7 j (by omega), hj]
    rcases Nat.eq_zero_or_pos l with h0 | hpos
    · subst h0
      exact ⟨[], rfl, fun i cs hi => by simp at hi, by simp⟩
    · obtain ⟨b, o, spot⟩ := a
      have hspot : spot = none := by
        obtain ⟨cs, y, hc, _⟩ := each 0 hpos
        obtain ⟨hl, hcell⟩ := cells 0 cs hc
        have h8 := hcell 0 (cs[0]'(by omega)) (List.getElem?_eq_getElem (by omega))
        have := World.cell?_spot h8
        simpa [Addr.add] using this
      subst hspot
      have pick : ∀ i, ∃ cs, i < l → (w.cells? base ((⟨b, o, none⟩ : Addr).add (i * P.cellsOf e)) (P.cellsOf e) = some cs ∧ ∃ y, DataW.trod enc P w base spare held n e cs = some y) := by
        intro i
        rcases Nat.lt_or_ge i l with hi | hi
        · obtain ⟨cs, y, h3, h4⟩ := each i hi
          exact ⟨cs, fun _ => ⟨h3, y, h4⟩⟩
        · exact ⟨[], fun h => by omega⟩
      refine ⟨(List.range l).map fun i => Classical.choose (pick i), by simp, ?_, ?_⟩
      · intro i cs hi
        have hil : i < l := by have := (List.getElem?_eq_some_iff.1 hi).1; simpa using this
        rw [List.getElem?_map, List.getElem?_range hil] at hi
        simp only [Option.map_some, Option.some.injEq] at hi
        obtain ⟨h3, _⟩ := Classical.choose_spec (pick i) hil
        rw [hi] at h3
        refine ⟨b, o, rfl, fun j u hj => ?_⟩
        have := (cells i cs h3).2 j u hj
        rwa [addr_add, addr_add] at this
      · intro cs hcs
        obtain ⟨i, hi, rfl⟩ := List.mem_map.1 hcs
        obtain ⟨h3, y, h4⟩ := Classical.choose_spec (pick i) (List.mem_range.1 hi)
        exact ⟨(cells i _ h3).1, n, y, h4⟩
/-- Numbers. -/
def Ints (w : World) (ad : Option Addr) (k : IntKind) (xs : List Int) : Prop := ∀ i (h : i < xs.length), ∃ b o, ad = some ⟨b, o, none⟩ ∧ w.cell? ⟨b, o + i, none⟩ = some (.int k xs[i])
theorem open_ints {H : Type} {enc : TypeId × Value → H} {P : Program} {w : World} {base : Nat} {spare : Nat → Bool} {held : Bool} {t e : TypeId} {k : IntKind} {fuel : Nat} {x : DataW H × List MemPlace} {ad : Option Addr} {l c : Nat} (ht : P.underlying t = some (.slice e)) (he : P.underlying e = some (.int k)) (h1 : P.cellsOf e = 1)
    (h : DataW.trod enc P w base spare held fuel t (Value.slice ad l c).cells.toList = some x) : ∃ xs : List Int, l = xs.length ∧ (∀ x ∈ xs, fits k x) ∧ Ints w ad k xs := by
  obtain ⟨els, h2, h3, h4⟩ := open_els ht (by omega) h
  obtain ⟨zs, hz, hzf⟩ : ∃ xs : List Int, els.map (fun cs => cs.headD (.bool false)) = xs.map (Value.int k) ∧ ∀ x ∈ xs, fits k x := ints_of fun v hv => by
    obtain ⟨cs, hcs, rfl⟩ := List.mem_map.1 hv
    obtain ⟨_, f, y, hy⟩ := h4 cs hcs
    obtain ⟨a, rfl, _, ha⟩ := DataW.trod_int he hy
    exact ⟨a, rfl, fits_wf ha⟩
  have hzl : zs.length = els.length := by have := congrArg List.length hz; simpa using this.symm
  refine ⟨zs, by omega, hzf, fun i hi => ?_⟩
  obtain ⟨b, o, e1, hold⟩ := h3 i els[i] (List.getElem?_eq_getElem (by omega))
  refine ⟨b, o, e1, ?_⟩
  have h5 : (els.map (fun cs => cs.headD (.bool false)))[i]? = (zs.map (Value.int k))[i]? := by rw [hz]
  rw [List.getElem?_map, List.getElem?_map, List.getElem?_eq_getElem (by omega), List.getElem?_eq_getElem hi] at h5
  simp only [Option.map_some, Option.some.injEq] at h5
  have hl := (h4 els[i] (List.getElem_mem _)).1
  have h6 := hold 0 (.int k zs[i]) (by
    rw [← h5]
    cases hc : els[i] with
    | nil => rw [hc] at hl; simp [h1] at hl
    | cons v vs => rfl)
  rwa [h1, Nat.mul_one, Nat.add_zero] at h6
end Go.Proofs.YtghomncegjamfaaGreat

namespace Go.Proofs.YtghomncegjamfaaGreat
open Go.RowKit

section
variable {P : Program} {n : Nat} {E : Env} {W : World → Prop} {Q : Exit → Act → World → Prop} {d : Option Tmp} {ty T T' : Nat} {pos : String} {af : Array Edge} {g : Option (Nat × Bool)} {x y z : Operand} {w0 : World} {S : List Nat} {H H' : List HA}

theorem equalIn_str [hT : TStr P T] (m : Nat) (s t : ByteArray) (w : World) : (Op.equalIn (m + 1) T (.string s) (.string t)).run P w = .ok (decide (s = t)) w := by
  rw [run_equalIn_string w m T s t hT.h, toList_eq_iff]
theorem equalIn_int {k : IntKind} [hT : TInt P T k] (m : Nat) (p q : Int) (w : World) : (Op.equalIn (m + 1) T (.int k p) (.int k q)).run P w = .ok (decide (p = q)) w := by
  simp [Op.equalIn, run_underlying hT.h]
  rfl
theorem equalIn_bool' [hT : TBool P T] (m : Nat) (p q : Bool) (w : World) : (Op.equalIn (m + 1) T (.bool p) (.bool q)).run P w = .ok (decide (p = q)) w := by
  rw [equalIn_bool m p q w]
  cases p <;> cases q <;> rfl
theorem eqF_nil {D : Nat} {xs ys : Array Value} {w : World} : (Op.eqFields D xs ys []).run P w = .ok true w := rfl
theorem eqF_cell {f : Field} {fs : List Field} {D off : Nat} {xs ys : List Value} {a b : Value} {r s : Bool} {w : World} (hn : (f.name == "_") = false) (ht : f.type = T) (ho : f.offset = off) [hC : TCell P T] (ha : xs[off]? = some a) (hb : ys[off]? = some b)
    (he : (Op.equalIn D T a b).run P w = .ok r w) (k : (Op.eqFields D xs.toArray ys.toArray fs).run P w = .ok s w) : (Op.eqFields D xs.toArray ys.toArray (f :: fs)).run P w = .ok (r && s) w := by
  have hn' : f.name ≠ "_" := fun h => by rw [h] at hn; exact absurd hn (by decide)
  subst ht ho
  simp only [Op.eqFields, ne_eq, hn', not_false_eq_true, if_true, part, Sem.run_bind, (hC.h w).1, Result.andThen_ok, Bool.false_eq_true, if_false, List.getElem?_toArray, ha, hb, Sem.run_pure, he]
  cases r <;> simp [k]
theorem eqF_agg {f : Field} {fs : List Field} {D off size : Nat} {xs ys us vs : List Value} {r s : Bool} {w : World} (hn : (f.name == "_") = false) (ht : f.type = T) (ho : f.offset = off) [hC : TAgg P T size] (ha : TakeAt off size xs us) (hb : TakeAt off size ys vs)
    (he : (Op.equalIn D T (.agg us.toArray) (.agg vs.toArray)).run P w = .ok r w) (k : (Op.eqFields D xs.toArray ys.toArray fs).run P w = .ok s w) : (Op.eqFields D xs.toArray ys.toArray (f :: fs)).run P w = .ok (r && s) w := by
  have hn' : f.name ≠ "_" := fun h => by rw [h] at hn; exact absurd hn (by decide)
  subst ht ho
  have h7 : (xs.take (f.offset + size)).drop f.offset = us := by rw [List.drop_take, Nat.add_sub_cancel_left]; exact ha.eq.1
  have h8 : (ys.take (f.offset + size)).drop f.offset = vs := by rw [List.drop_take, Nat.add_sub_cancel_left]; exact hb.eq.1
  simp only [Op.eqFields, ne_eq, hn', not_false_eq_true, if_true, part, Sem.run_bind, (hC.h w).1, (hC.h w).2, Result.andThen_ok, Sem.run_pure, List.extract_toArray, List.extract_eq_drop_take', h7, h8, he]
  cases r <;> simp [k]
theorem y_eql_agg {xs ys : List Value} {b : Bool} (hx : ev E x = some (.agg xs.toArray)) (hy : ev E y = some (.agg ys.toArray)) (hm : P.eqGuardType P.depth T = false) (h : ∀ w, (Op.equalIn 10000 T (.agg xs.toArray) (.agg ys.toArray)).run P w = .ok b w) :
    Yields P n E W ⟨d, .binOp .eql T x y T', ty, pos, af, g⟩ (.bool b) := fun a w ha _ => by
  simp [execOp, ha.ev hx, ha.ev hy, run_eqGuard_agg w .eql T x y xs.toArray ys.toArray hm, run_eql_struct, h w]
theorem y_neq_agg {xs ys : List Value} {b : Bool} (hx : ev E x = some (.agg xs.toArray)) (hy : ev E y = some (.agg ys.toArray)) (hm : P.eqGuardType P.depth T = false) (h : ∀ w, (Op.equalIn 10000 T (.agg xs.toArray) (.agg ys.toArray)).run P w = .ok b w) :
    Yields P n E W ⟨d, .binOp .neq T x y T', ty, pos, af, g⟩ (.bool !b) := fun a w ha _ => by
  simp [execOp, ha.ev hx, ha.ev hy, run_eqGuard_agg w .neq T x y xs.toArray ys.toArray hm, run_neq_struct, h w]

/-! maps -/
theorem getO {w : World} {b clock : Nat} {es : Array MapEntry} (hb : w.heap[b]? = some (.map es clock)) : (getObj b).run P w = .ok (.map es clock) w := by
  simp [getObj, Sem.run, hb]
/-- The entries of a map from keys to true, in the order in which they came. -/
def ents : List Value → Nat → List MapEntry
  | [], _ => []
  | k :: ks, i => { key := k, val := .bool true, born := i } :: ents ks (i + 1)
/-- A map from these keys to true. -/
def setO (ks : List Value) : Obj := .map (ents ks 0).toArray ks.length
theorem ents_append : ∀ (ks l : List Value) (i : Nat), ents (ks ++ l) i = ents ks i ++ ents l (i + ks.length)
  | [], l, i => by simp [ents]
  | k :: ks, l, i => by simp [ents, ents_append ks l (i + 1), Nat.add_comm, Nat.add_left_comm]
theorem ents_isEmpty (ks : List Value) (i : Nat) : (ents ks i).isEmpty = ks.isEmpty := by cases ks <;> rfl
theorem m_makeMap : Makes P n E (Hp w0 S H) ⟨d, .makeMap T none, ty, pos, af, g⟩ (fun b => .map (some b)) (fun b => Hp w0 S (.obj b (setO []) :: H)) := fun a w ha hw => by
  refine ⟨w.heap.size, w.alloc (.map #[] 0), ?_, hw.new (Ch.alloc w _) (by show (w.alloc (.map #[] 0)).heap[w.heap.size]? = _; rw [heap_alloc_new]; rfl) (fun k hk => by cases hk; exact Nat.le_refl _)⟩
  simp [execOp, run_makeMap]

section
variable {α : Type} {c : α → Value} {K : Nat}
/-- How keys of a type are held against each other. -/
class KeyEq {α : Type} (P : Program) (K : Nat) (c : α → Value) [DecidableEq α] : Prop where
  eq : ∀ a b w, (Op.equal K (c a) (c b)).run P w = .ok (decide (a = b)) w
  now : ∃ D, P.underlying K = some D ∧ ((∀ a b, Instr.sameNow D (c a) (c b) = none) ∨ ∀ a b, Instr.sameNow D (c a) (c b) = some (decide (a = b)))
  chk : ∀ (e : Bool) a w, (Instr.checkKey e 10000 K (c a)).run P w = .ok () w
theorem asking_run [DecidableEq α] [hK : KeyEq P K c] (a : α) (w : World) : ∀ (ks : List α) (i j : Nat), ∃ r, (Instr.findAsking K (c a) (ents (ks.map c) i) j).run P w = .ok r w ∧ (a ∈ ks → ∃ m, r = some (m, .bool true)) ∧ (a ∉ ks → r = none)
  | [], i, j => ⟨none, rfl, (fun h => absurd h List.not_mem_nil), fun _ => rfl⟩
  | b :: ks, i, j => by
    obtain ⟨r, h1, h2, h3⟩ := asking_run a w ks (i + 1) (j + 1)
    by_cases h : a = b
    · subst h
      exact ⟨some (j, .bool true), by simp [ents, Instr.findAsking, hK.eq], fun _ => ⟨j, rfl⟩, fun hn => absurd (List.mem_cons.2 (.inl rfl)) hn⟩
    · refine ⟨r, by simp [ents, Instr.findAsking, hK.eq a b w, h, h1], fun hm => ?_, fun hn => h3 fun hm => hn (List.mem_cons.2 (.inr hm))⟩
      rcases List.mem_cons.1 hm with h4 | h4
      · exact absurd h4 h
      · exact h2 h4
theorem now_none {D : TypeDesc} (hn : ∀ a b : α, Instr.sameNow D (c a) (c b) = none) (a : α) : ∀ (ks : List α) (i j : Nat), ks ≠ [] → Instr.findNow D (c a) (ents (ks.map c) i) j = none
  | [], _, _, h => absurd rfl h
  | b :: ks, i, j, _ => by simp [ents, Instr.findNow, hn]
theorem now_some [DecidableEq α] {D : TypeDesc} (hn : ∀ a b : α, Instr.sameNow D (c a) (c b) = some (decide (a = b))) (a : α) : ∀ (ks : List α) (i j : Nat), ∃ r, Instr.findNow D (c a) (ents (ks.map c) i) j = some r ∧ (a ∈ ks → ∃ m, r = some (m, .bool true)) ∧ (a ∉ ks → r = none)
  | [], i, j => ⟨none, rfl, (fun h => absurd h List.not_mem_nil), fun _ => rfl⟩
  | b :: ks, i, j => by
    obtain ⟨r, h1, h2, h3⟩ := now_some hn a ks (i + 1) (j + 1)
    by_cases h : a = b
    · exact ⟨some (j, .bool true), by simp [ents, Instr.findNow, hn, h], fun _ => ⟨j, rfl⟩, fun h' => absurd (List.mem_cons.2 (.inl h)) h'⟩
    · refine ⟨r, by simp [ents, Instr.findNow, hn, h, h1], fun hm => ?_, fun h' => h3 fun hm => h' (List.mem_cons.2 (.inr hm))⟩
      rcases List.mem_cons.1 hm with h4 | h4
      · exact absurd h4 h
      · exact h2 h4
theorem find_run [DecidableEq α] [hK : KeyEq P K c] (a : α) (ks : List α) (w : World) : ∃ r, (Instr.findKey K (c a) (ents (ks.map c) 0)).run P w = .ok r w ∧ (a ∈ ks → ∃ m, r = some (m, .bool true)) ∧ (a ∉ ks → r = none) := by
  obtain ⟨D, hD, hn | hn⟩ := hK.now
  · rcases Classical.em (ks = []) with h | h
    · subst h
      exact ⟨none, by simp [Instr.findKey, run_underlying hD, ents, Instr.findNow], (fun h => absurd h List.not_mem_nil), fun _ => rfl⟩
    · obtain ⟨r, h1, h2⟩ := asking_run (P := P) (c := c) (K := K) a w ks 0 0
      exact ⟨r, by simp [Instr.findKey, run_underlying hD, now_none hn a ks 0 0 h, h1], h2⟩
  · obtain ⟨r, h1, h2⟩ := now_some hn a ks 0 0
    exact ⟨r, by simp [Instr.findKey, run_underlying hD, h1], h2⟩
class TMapB (P : Program) (T : Nat) (K : outParam Nat) : Prop where
  h : ∃ e, P.underlying T = some (.map K e) ∧ ∀ w, (zeroValue e).run P w = .ok (.bool false) w
theorem y_lookup [DecidableEq α] [hT : TMapB P T K] [hK : KeyEq P K c] {a : α} {ks : List α} {b : Nat} (hx : ev E x = some (.map (some b))) (hy : ev E y = some (c a)) (hm : HA.obj b (setO (ks.map c)) ∈ H) :
    Yields P n E (Hp w0 S H) ⟨d, .lookup T x y false, ty, pos, af, g⟩ (.bool (decide (a ∈ ks))) := fun A w ha hw => by
  obtain ⟨e, h1, h2⟩ := hT.h
  obtain ⟨r, h3, h4, h5⟩ := find_run (P := P) (c := c) (K := K) a ks w
  have hb : w.heap[b]? = some (Obj.map (ents (ks.map c) 0).toArray (ks.map c).length) := hw.get hm
  have ho := getO (P := P) hb
  by_cases h : a ∈ ks
  · obtain ⟨m, rfl⟩ := h4 h
    simp [execOp, ha.ev hx, ha.ev hy, Instr.lookup, run_underlying h1, ho, hK.chk, h3, h]
  · have := h5 h
    subst this
    simp [execOp, ha.ev hx, ha.ev hy, Instr.lookup, run_underlying h1, ho, hK.chk, h3, h, h2]
theorem w_mapUpdate [DecidableEq α] [hT : TMapB P T K] [hK : KeyEq P K c] {a : α} {ks : List α} {b : Nat} (hx : ev E x = some (.map (some b))) (hy : ev E y = some (c a)) (hz : ev E z = some (.bool true)) (hn : a ∉ ks) (r : Rep (.obj b (setO (ks.map c))) (.obj b (setO ((ks ++ [a]).map c))) H H') :
    Writes P n E (Hp w0 S H) ⟨d, .mapUpdate T x y z, ty, pos, af, g⟩ (Hp w0 S H') := fun A w ha hw => by
  obtain ⟨e, h1, h2⟩ := hT.h
  obtain ⟨q, h3, _, h5⟩ := find_run (P := P) (c := c) (K := K) a ks w
  have := h5 hn
  subst this
  have hb : w.heap[b]? = some (Obj.map (ents (ks.map c) 0).toArray (ks.map c).length) := hw.get r.mem
  have ho := getO (P := P) hb
  refine ⟨w.putObj b (setO ((ks ++ [a]).map c)), ?_, hw.putObj r⟩
  have e1 : setO ((ks ++ [a]).map c) = .map ((ents (ks.map c) 0).toArray.push { key := c a, val := .bool true, born := (ks.map c).length }) ((ks.map c).length + 1) := by
    simp [setO, ents_append, ents]
  have hs : ∀ o : Obj, (setObj b o).run P w = .ok () (w.putObj b o) := fun o => by simp [setObj, Sem.run, hb, World.putObj]
  rw [e1]
  simp [execOp, ha.ev hx, ha.ev hy, ha.ev hz, Instr.mapUpdate, run_underlying h1, ho, hK.chk, h3, hs]
end
end
end Go.Proofs.YtghomncegjamfaaGreat
