/- The calculus, part seventeen: parts of slices. -/
import Derived.Test.YtghomncegjamfaaJr
import Derived.Laws.Slices
namespace Go.Proofs.Ytghomncegjamfaa
open Go.RowKit

section
variable {P : Program} {n : Nat} {E : Env} {W : World → Prop} {d : Option Tmp} {ty T e size bytes : Nat} {zs : List Value} {pos : String} {af : Array Edge} {g : Option (Nat × Bool)} {x y z : Operand} {ad : Option Addr} {l c : Nat} {k k' : IntKind} {p q : Int}
/-- Where the part from an element on lies. -/
def subAd (ad : Option Addr) (c m size : Nat) : Option Addr := if c = m then ad else ad.map (·.add (m * size))
theorem elem_of [hT : TSlice P T e] : P.elem T = e := by simp [Program.elem, hT.h]
theorem y_sl_hi [hT : TSlice P T e] [hI : TInfo P e size bytes zs] (hx : ev E x = some (.slice ad l c)) (hz : ev E z = some (.int k q)) (h0 : 0 ≤ q) (h1 : q ≤ c) : Yields P n E W ⟨d, .slice T x none (some z) none, ty, pos, af, g⟩ (.slice ad q.toNat c) := fun a w ha _ => by
  obtain ⟨i, zv, hi, hs, _⟩ := hI.h
  have ht : P.underlying T = some (.slice (P.elem T)) := by rw [elem_of (e := e)]; exact hT.h
  have h2 := run_slice_h (P := P) w T ad l c ht k q h0 h1
  have hsz : (sizeOf (P.elem T)).run P w = .ok size w := by rw [elem_of (e := e)]; simp [sizeOf, typeInfo, hi, hs]
  rw [hsz, Result.andThen_ok] at h2
  simp only [execOp, ha.ev hx, Option.map_some, Option.map_none, ha.ev hz, run_sliceAt_slice w T _ _ _ _ ht, Sem.run_bind, h2]
  cases ad <;> simp [sliced, Addr.add]
theorem y_sl_lo [hT : TSlice P T e] [hI : TInfo P e size bytes zs] (hx : ev E x = some (.slice ad l c)) (hy : ev E y = some (.int k p)) (h0 : 0 ≤ p) (h1 : p ≤ l) : Yields P n E W ⟨d, .slice T x (some y) none none, ty, pos, af, g⟩ (.slice (subAd ad c p.toNat size) (l - p.toNat) (c - p.toNat)) := fun a w ha _ => by
  obtain ⟨i, zv, hi, hs, _⟩ := hI.h
  have ht : P.underlying T = some (.slice (P.elem T)) := by rw [elem_of (e := e)]; exact hT.h
  have h2 := run_slice_l (P := P) w T ad l c ht k p h0 h1
  have hsz : (sizeOf (P.elem T)).run P w = .ok size w := by rw [elem_of (e := e)]; simp [sizeOf, typeInfo, hi, hs]
  rw [hsz, Result.andThen_ok] at h2
  simp only [execOp, ha.ev hx, Option.map_some, Option.map_none, ha.ev hy, run_sliceAt_slice w T _ _ _ _ ht, Sem.run_bind, h2]
  simp [sliced, subAd]
end
theorem ElAt.take {w : World} {ad : Option Addr} {sz : Nat} {els : List (List Value)} (h : ElAt w ad sz els) (k : Nat) : ElAt w ad sz (els.take k) := fun i cs hc => h i cs (by
  have hi := (List.getElem?_eq_some_iff.1 hc).1
  rw [List.length_take] at hi
  rwa [List.getElem?_take_of_lt (by omega)] at hc)
theorem ElAt.drop {w : World} {ad : Option Addr} {sz c : Nat} {els : List (List Value)} (h : ElAt w ad sz els) (k : Nat) (hc : els.length ≤ c) : ElAt w (subAd ad c k sz) sz (els.drop k) := fun i cs hi => by
  rw [List.getElem?_drop] at hi
  have hl := (List.getElem?_eq_some_iff.1 hi).1
  obtain ⟨b, o, e, h1⟩ := h _ cs hi
  subst e
  refine ⟨b, o + k * sz, by unfold subAd; rw [if_neg (by omega)]; simp [Addr.add], ?_⟩
  rwa [show o + k * sz + i * sz = o + (k + i) * sz by rw [Nat.add_mul]; omega]
end Go.Proofs.Ytghomncegjamfaa
