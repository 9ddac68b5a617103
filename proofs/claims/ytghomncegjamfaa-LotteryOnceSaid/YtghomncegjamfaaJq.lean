/- The calculus, part fifteen: structs held against each other; maps that the call makes, with values of true. -/
import Derived.Test.YtghomncegjamfaaJp
import Derived.Test.YtghomncegjamfaaJl
import Derived.Laws.StructEq
import Derived.MapKept
import Derived.Carry
namespace Go.Proofs.Ytghomncegjamfaa
open Go.RowKit

section
variable {P : Program} {n : Nat} {E : Env} {W : World → Prop} {Q : Exit → Act → World → Prop} {d : Option Tmp} {ty T T' : Nat} {pos : String} {af : Array Edge} {g : Option (Nat × Bool)} {x y z : Operand} {w0 : World} {S : List Nat} {H H' : List HA}

theorem equalIn_str [hT : TStr P T] (m : Nat) (s t : ByteArray) (w : World) : (Op.equalIn (m + 1) T (.string s) (.string t)).run P w = .ok (decide (s = t)) w := by
  rw [run_equalIn_string w m T s t hT.h, toList_eq_iff]
theorem equalIn_int {k : IntKind} [hT : TInt P T k] (m : Nat) (p q : Int) (w : World) : (Op.equalIn (m + 1) T (.int k p) (.int k q)).run P w = .ok (decide (p = q)) w := by
  simp [Op.equalIn, run_underlying hT.h]
  rfl
theorem equalIn_bool' [hT : TBool P T] (m : Nat) (p q : Bool) (w : World) : (Op.equalIn (m + 1) T (.bool p) (.bool q)).run P w = .ok (decide (p = q)) w := by
  rw [equalIn_bool m p q w]
  cases p <;> cases q <;> rfl
theorem eqF_nil {D : Nat} {xs ys : Array Value} {w : World} : (Op.eqFields D xs ys []).run P w = .ok true w := rfl
theorem eqF_cell {f : Field} {fs : List Field} {D off : Nat} {xs ys : List Value} {a b : Value} {r s : Bool} {w : World} (hn : (f.name == "_") = false) (ht : f.type = T) (ho : f.offset = off) [hC : TCell P T] (ha : xs[off]? = some a) (hb : ys[off]? = some b)
    (he : (Op.equalIn D T a b).run P w = .ok r w) (k : (Op.eqFields D xs.toArray ys.toArray fs).run P w = .ok s w) : (Op.eqFields D xs.toArray ys.toArray (f :: fs)).run P w = .ok (r && s) w := by
  have hn' : f.name ≠ "_" := fun h => by rw [h] at hn; exact absurd hn (by decide)
  subst ht ho
  simp only [Op.eqFields, ne_eq, hn', not_false_eq_true, if_true, part, Sem.run_bind, (hC.h w).1, Result.andThen_ok, Bool.false_eq_true, if_false, List.getElem?_toArray, ha, hb, Sem.run_pure, he]
  cases r <;> simp [k]
theorem eqF_agg {f : Field} {fs : List Field} {D off size : Nat} {xs ys us vs : List Value} {r s : Bool} {w : World} (hn : (f.name == "_") = false) (ht : f.type = T) (ho : f.offset = off) [hC : TAgg P T size] (ha : TakeAt off size xs us) (hb : TakeAt off size ys vs)
    (he : (Op.equalIn D T (.agg us.toArray) (.agg vs.toArray)).run P w = .ok r w) (k : (Op.eqFields D xs.toArray ys.toArray fs).run P w = .ok s w) : (Op.eqFields D xs.toArray ys.toArray (f :: fs)).run P w = .ok (r && s) w := by
  have hn' : f.name ≠ "_" := fun h => by rw [h] at hn; exact absurd hn (by decide)
  subst ht ho
  have h7 : (xs.take (f.offset + size)).drop f.offset = us := by rw [List.drop_take, Nat.add_sub_cancel_left]; exact ha.eq.1
  have h8 : (ys.take (f.offset + size)).drop f.offset = vs := by rw [List.drop_take, Nat.add_sub_cancel_left]; exact hb.eq.1
  simp only [Op.eqFields, ne_eq, hn', not_false_eq_true, if_true, part, Sem.run_bind, (hC.h w).1, (hC.h w).2, Result.andThen_ok, Sem.run_pure, List.extract_toArray, List.extract_eq_drop_take', h7, h8, he]
  cases r <;> simp [k]
theorem y_eql_agg {xs ys : List Value} {b : Bool} (hx : ev E x = some (.agg xs.toArray)) (hy : ev E y = some (.agg ys.toArray)) (hm : P.eqGuardType P.depth T = false) (h : ∀ w, (Op.equalIn 10000 T (.agg xs.toArray) (.agg ys.toArray)).run P w = .ok b w) :
    Yields P n E W ⟨d, .binOp .eql T x y T', ty, pos, af, g⟩ (.bool b) := fun a w ha _ => by
  simp [execOp, ha.ev hx, ha.ev hy, run_eqGuard_agg w .eql T x y xs.toArray ys.toArray hm, run_eql_struct, h w]
theorem y_neq_agg {xs ys : List Value} {b : Bool} (hx : ev E x = some (.agg xs.toArray)) (hy : ev E y = some (.agg ys.toArray)) (hm : P.eqGuardType P.depth T = false) (h : ∀ w, (Op.equalIn 10000 T (.agg xs.toArray) (.agg ys.toArray)).run P w = .ok b w) :
    Yields P n E W ⟨d, .binOp .neq T x y T', ty, pos, af, g⟩ (.bool !b) := fun a w ha _ => by
  simp [execOp, ha.ev hx, ha.ev hy, run_eqGuard_agg w .neq T x y xs.toArray ys.toArray hm, run_neq_struct, h w]

/-! maps -/
theorem getO {w : World} {b clock : Nat} {es : Array MapEntry} (hb : w.heap[b]? = some (.map es clock)) : (getObj b).run P w = .ok (.map es clock) w := by
  simp [getObj, Sem.run, hb]
/-- The entries of a map from keys to true, in the order in which they came. -/
def ents : List Value → Nat → List MapEntry
  | [], _ => []
  | k :: ks, i => { key := k, val := .bool true, born := i } :: ents ks (i + 1)
/-- A map from these keys to true. -/
def setO (ks : List Value) : Obj := .map (ents ks 0).toArray ks.length
theorem ents_append : ∀ (ks l : List Value) (i : Nat), ents (ks ++ l) i = ents ks i ++ ents l (i + ks.length)
  | [], l, i => by simp [ents]
  | k :: ks, l, i => by simp [ents, ents_append ks l (i + 1), Nat.add_comm, Nat.add_left_comm]
theorem ents_isEmpty (ks : List Value) (i : Nat) : (ents ks i).isEmpty = ks.isEmpty := by cases ks <;> rfl
theorem m_makeMap : Makes P n E (Hp w0 S H) ⟨d, .makeMap T none, ty, pos, af, g⟩ (fun b => .map (some b)) (fun b => Hp w0 S (.obj b (setO []) :: H)) := fun a w ha hw => by
  refine ⟨w.heap.size, w.alloc (.map #[] 0), ?_, hw.new (Ch.alloc w _) (by show (w.alloc (.map #[] 0)).heap[w.heap.size]? = _; rw [heap_alloc_new]; rfl) (fun k hk => by cases hk; exact Nat.le_refl _)⟩
  simp [execOp, run_makeMap]

section
variable {α : Type} {c : α → Value} {K : Nat}
/-- How keys of a type are held against each other. -/
class KeyEq {α : Type} (P : Program) (K : Nat) (c : α → Value) [DecidableEq α] : Prop where
  eq : ∀ a b w, (Op.equal K (c a) (c b)).run P w = .ok (decide (a = b)) w
  now : ∃ D, P.underlying K = some D ∧ ((∀ a b, Instr.sameNow D (c a) (c b) = none) ∨ ∀ a b, Instr.sameNow D (c a) (c b) = some (decide (a = b)))
  chk : ∀ (e : Bool) a w, (Instr.checkKey e 10000 K (c a)).run P w = .ok () w
theorem asking_run [DecidableEq α] [hK : KeyEq P K c] (a : α) (w : World) : ∀ (ks : List α) (i j : Nat), ∃ r, (Instr.findAsking K (c a) (ents (ks.map c) i) j).run P w = .ok r w ∧ (a ∈ ks → ∃ m, r = some (m, .bool true)) ∧ (a ∉ ks → r = none)
  | [], i, j => ⟨none, rfl, (fun h => absurd h List.not_mem_nil), fun _ => rfl⟩
  | b :: ks, i, j => by
    obtain ⟨r, h1, h2, h3⟩ := asking_run a w ks (i + 1) (j + 1)
    by_cases h : a = b
    · subst h
      exact ⟨some (j, .bool true), by simp [ents, Instr.findAsking, hK.eq], fun _ => ⟨j, rfl⟩, fun hn => absurd (List.mem_cons.2 (.inl rfl)) hn⟩
    · refine ⟨r, by simp [ents, Instr.findAsking, hK.eq a b w, h, h1], fun hm => ?_, fun hn => h3 fun hm => hn (List.mem_cons.2 (.inr hm))⟩
      rcases List.mem_cons.1 hm with h4 | h4
      · exact absurd h4 h
      · exact h2 h4
theorem now_none {D : TypeDesc} (hn : ∀ a b : α, Instr.sameNow D (c a) (c b) = none) (a : α) : ∀ (ks : List α) (i j : Nat), ks ≠ [] → Instr.findNow D (c a) (ents (ks.map c) i) j = none
  | [], _, _, h => absurd rfl h
  | b :: ks, i, j, _ => by simp [ents, Instr.findNow, hn]
theorem now_some [DecidableEq α] {D : TypeDesc} (hn : ∀ a b : α, Instr.sameNow D (c a) (c b) = some (decide (a = b))) (a : α) : ∀ (ks : List α) (i j : Nat), ∃ r, Instr.findNow D (c a) (ents (ks.map c) i) j = some r ∧ (a ∈ ks → ∃ m, r = some (m, .bool true)) ∧ (a ∉ ks → r = none)
  | [], i, j => ⟨none, rfl, (fun h => absurd h List.not_mem_nil), fun _ => rfl⟩
  | b :: ks, i, j => by
    obtain ⟨r, h1, h2, h3⟩ := now_some hn a ks (i + 1) (j + 1)
    by_cases h : a = b
    · exact ⟨some (j, .bool true), by simp [ents, Instr.findNow, hn, h], fun _ => ⟨j, rfl⟩, fun h' => absurd (List.mem_cons.2 (.inl h)) h'⟩
    · refine ⟨r, by simp [ents, Instr.findNow, hn, h, h1], fun hm => ?_, fun h' => h3 fun hm => h' (List.mem_cons.2 (.inr hm))⟩
      rcases List.mem_cons.1 hm with h4 | h4
      · exact absurd h4 h
      · exact h2 h4
theorem find_run [DecidableEq α] [hK : KeyEq P K c] (a : α) (ks : List α) (w : World) : ∃ r, (Instr.findKey K (c a) (ents (ks.map c) 0)).run P w = .ok r w ∧ (a ∈ ks → ∃ m, r = some (m, .bool true)) ∧ (a ∉ ks → r = none) := by
  obtain ⟨D, hD, hn | hn⟩ := hK.now
  · rcases Classical.em (ks = []) with h | h
    · subst h
      exact ⟨none, by simp [Instr.findKey, run_underlying hD, ents, Instr.findNow], (fun h => absurd h List.not_mem_nil), fun _ => rfl⟩
    · obtain ⟨r, h1, h2⟩ := asking_run (P := P) (c := c) (K := K) a w ks 0 0
      exact ⟨r, by simp [Instr.findKey, run_underlying hD, now_none hn a ks 0 0 h, h1], h2⟩
  · obtain ⟨r, h1, h2⟩ := now_some hn a ks 0 0
    exact ⟨r, by simp [Instr.findKey, run_underlying hD, h1], h2⟩
class TMapB (P : Program) (T : Nat) (K : outParam Nat) : Prop where
  h : ∃ e, P.underlying T = some (.map K e) ∧ ∀ w, (zeroValue e).run P w = .ok (.bool false) w
theorem y_lookup [DecidableEq α] [hT : TMapB P T K] [hK : KeyEq P K c] {a : α} {ks : List α} {b : Nat} (hx : ev E x = some (.map (some b))) (hy : ev E y = some (c a)) (hm : HA.obj b (setO (ks.map c)) ∈ H) :
    Yields P n E (Hp w0 S H) ⟨d, .lookup T x y false, ty, pos, af, g⟩ (.bool (decide (a ∈ ks))) := fun A w ha hw => by
  obtain ⟨e, h1, h2⟩ := hT.h
  obtain ⟨r, h3, h4, h5⟩ := find_run (P := P) (c := c) (K := K) a ks w
  have hb : w.heap[b]? = some (Obj.map (ents (ks.map c) 0).toArray (ks.map c).length) := hw.get hm
  have ho := getO (P := P) hb
  by_cases h : a ∈ ks
  · obtain ⟨m, rfl⟩ := h4 h
    simp [execOp, ha.ev hx, ha.ev hy, Instr.lookup, run_underlying h1, ho, hK.chk, h3, h]
  · have := h5 h
    subst this
    simp [execOp, ha.ev hx, ha.ev hy, Instr.lookup, run_underlying h1, ho, hK.chk, h3, h, h2]
theorem w_mapUpdate [DecidableEq α] [hT : TMapB P T K] [hK : KeyEq P K c] {a : α} {ks : List α} {b : Nat} (hx : ev E x = some (.map (some b))) (hy : ev E y = some (c a)) (hz : ev E z = some (.bool true)) (hn : a ∉ ks) (r : Rep (.obj b (setO (ks.map c))) (.obj b (setO ((ks ++ [a]).map c))) H H') :
    Writes P n E (Hp w0 S H) ⟨d, .mapUpdate T x y z, ty, pos, af, g⟩ (Hp w0 S H') := fun A w ha hw => by
  obtain ⟨e, h1, h2⟩ := hT.h
  obtain ⟨q, h3, _, h5⟩ := find_run (P := P) (c := c) (K := K) a ks w
  have := h5 hn
  subst this
  have hb : w.heap[b]? = some (Obj.map (ents (ks.map c) 0).toArray (ks.map c).length) := hw.get r.mem
  have ho := getO (P := P) hb
  refine ⟨w.putObj b (setO ((ks ++ [a]).map c)), ?_, hw.putObj r⟩
  have e1 : setO ((ks ++ [a]).map c) = .map ((ents (ks.map c) 0).toArray.push { key := c a, val := .bool true, born := (ks.map c).length }) ((ks.map c).length + 1) := by
    simp [setO, ents_append, ents]
  have hs : ∀ o : Obj, (setObj b o).run P w = .ok () (w.putObj b o) := fun o => by simp [setObj, Sem.run, hb, World.putObj]
  rw [e1]
  simp [execOp, ha.ev hx, ha.ev hy, ha.ev hz, Instr.mapUpdate, run_underlying h1, ho, hK.chk, h3, hs]
end
end
end Go.Proofs.Ytghomncegjamfaa
