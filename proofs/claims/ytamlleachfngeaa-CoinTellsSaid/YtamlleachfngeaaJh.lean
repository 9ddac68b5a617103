/- The calculus, part eight: what comes in: numbers, rows, strings in a row. -/
import Derived.Test.YtamlleachfngeaaJg
import Derived.SliceStrings
import Derived.ChangeSlices
import GoSem.Claim
namespace Go.Proofs.Ytamlleachfngeaa
open Go.RowKit Go.WideShapes Go.ChangeShapes

theorem fits_wf {k : IntKind} {n : Int} (h : (Lit.int k n).wf = true) : fits k n := by
  simp only [Lit.wf, Bool.and_eq_true, decide_eq_true_eq] at h
  cases k <;> (simp only [IntKind.min, IntKind.max, IntKind.bits, IntKind.signed] at h; unfold fits; simp at h; omega)
/-- Strings in a row. -/
def Strs (w : World) (ad : Option Addr) (ps : List ByteArray) : Prop := ∀ i p, ps[i]? = some p → ∃ b o, ad = some ⟨b, o, none⟩ ∧ w.cell? ⟨b, o + i, none⟩ = some (.string p)
theorem Strs.keep {w w1 : World} {ad : Option Addr} {ps : List ByteArray} {H : List HA} (h : Strs w ad ps) (hw : Hp w [] H w1) : Strs w1 ad ps := fun i p hp => let ⟨b, o, e, hc⟩ := h i p hp; ⟨b, o, e, hw.cell hc (by simp)⟩
theorem Strs.of_row {w : World} {b m cap e : Nat} {ps : List ByteArray} (h : HA.ok w (.row (some ⟨b, 0, none⟩) m cap e 1 (ps.map Value.string))) : Strs w (some ⟨b, 0, none⟩) ps := fun i p hp => ⟨b, 0, rfl, by
  rw [Nat.zero_add]; exact row_cell h (by rw [List.getElem?_map, hp]; rfl)⟩
theorem Strs.of_own {w : World} {ad : Option Addr} {m cap e : Nat} {ps : List ByteArray} (h : HA.ok w (.row ad m cap e 1 (ps.map Value.string))) : Strs w ad ps := by
  rcases Nat.eq_zero_or_pos m with h0 | h0
  · have hl := row_len h
    subst h0
    have : ps = [] := by cases ps with
      | nil => rfl
      | cons p ps => simp at hl
    subst this
    intro i p hp; simp at hp
  · obtain ⟨b, rfl⟩ := row_some h h0
    exact Strs.of_row h
theorem strs_none (w : World) : Strs w none [] := fun i p h => by simp at h
section
variable {H : Type} {enc : TypeId × Value → H} {P : Program} {w : World} {base : Nat} {spare : Nat → Bool} {held : Bool}
theorem open_strs {t e : TypeId} {fuel : Nat} {x : DataW H × List MemPlace} {ad : Option Addr} {l c : Nat} (ht : P.underlying t = some (.slice e)) (he : P.underlying e = some .string) (hc : P.cellsOf e = 1)
    (h : DataW.trod enc P w base spare held fuel t (Value.slice ad l c).cells.toList = some x) : ∃ ps : List ByteArray, l = ps.length ∧ Strs w ad ps := by
  rcases open_strings ht he hc h with ⟨hcs, _⟩ | ⟨a, len, cap, ss, hcs, _, hl, hm, hss, _, hcell, _⟩
  · simp [Value.cells] at hcs
    obtain ⟨rfl, rfl, rfl⟩ := hcs
    exact ⟨[], rfl, strs_none w⟩
  · simp [Value.cells] at hcs
    obtain ⟨rfl, rfl, rfl⟩ := hcs
    have hlen : l ≤ ss.length := by rw [hss]; split <;> omega
    refine ⟨ss.take l, by rw [List.length_take]; omega, fun i p hp => ?_⟩
    have hi : i < ss.length := by have := (List.getElem?_eq_some_iff.1 hp).1; rw [List.length_take] at this; omega
    have h1 := hcell i hi
    have h2 : ss.getD i ByteArray.empty = p := by
      rw [List.getElem?_take] at hp
      split at hp
      · rw [List.getD_eq_getElem?_getD, hp]; rfl
      · cases hp
    rw [h2] at h1
    obtain ⟨b, o, spot⟩ := a
    have hspot : spot = none := by
      have := World.cell?_spot (hcell 0 (by omega))
      simpa [Addr.add] using this
    subst hspot
    refine ⟨b, o, rfl, ?_⟩
    rw [← addr_add]; exact h1
end
/-- A row lies there. -/
def Old (w : World) (b o : Nat) (vs : List Value) : Prop := ∀ j u, vs[j]? = some u → w.cell? ⟨b, o + j, none⟩ = some u
theorem Old.of_row {w : World} {b m cap e : Nat} {vs : List Value} (h : HA.ok w (.row (some ⟨b, 0, none⟩) m cap e 1 vs)) : Old w b 0 vs := fun j u hj => by rw [Nat.zero_add]; exact row_cell h hj
theorem Old.of_cells {w : World} {b : Nat} {vs : List Value} (h : HA.ok w (.cells b vs)) : Old w b 0 vs := fun j u hj => by rw [Nat.zero_add]; exact ((h : Cells w b vs).cell j).trans hj
theorem Old.drop {w : World} {b o : Nat} {vs : List Value} (h : Old w b o vs) (k : Nat) : Old w b (o + k) (vs.drop k) := fun j u hj => by
  rw [Nat.add_assoc]; exact h (k + j) u (by rw [List.getElem?_drop] at hj; exact hj)
theorem Old.take {w : World} {b o : Nat} {vs : List Value} (h : Old w b o vs) (k : Nat) : Old w b o (vs.take k) := fun j u hj => h j u (by
  rw [List.getElem?_take] at hj
  split at hj
  · exact hj
  · cases hj)
theorem Old.keep {w w1 : World} {b o : Nat} {vs : List Value} {H : List HA} (h : Old w b o vs) (hw : Hp w [] H w1) : Old w1 b o vs := fun j u hj => hw.cell (h j u hj) (by simp)
theorem map_get (k : IntKind) (l : List Int) (i : Nat) (h : i < l.length) : (l.map (Value.int k))[i]? = some (.int k (l.getD i 0)) := by
  simp [List.getD_eq_getElem?_getD, h]
theorem map_set (k : IntKind) (l : List Int) (i : Nat) (x : Int) : (l.map (Value.int k)).set i (.int k x) = (l.set i x).map (Value.int k) := by simp [List.map_set]
theorem Old.at {w : World} {b o : Nat} {k : IntKind} {l : List Int} (h : Old w b o (l.map (Value.int k))) (i : Nat) (hi : i < l.length) : w.cell? ⟨b, o + i, none⟩ = some (.int k (l.getD i 0)) := h i _ (map_get k l i hi)
end Go.Proofs.Ytamlleachfngeaa
