/- The calculus, part fourteen: what comes in: slices of whatever elements, opened element by element. -/
import Derived.Test.YtghomncegjamfaaJo
import Derived.ChangeSlices
import Derived.ChangeArms
namespace Go.Proofs.Ytghomncegjamfaa
open Go.RowKit Go.WideShapes Go.ChangeShapes Go.WideMaps

/-- Elements of so many cells, one behind the other. -/
def ElAt (w : World) (ad : Option Addr) (sz : Nat) (els : List (List Value)) : Prop := ∀ i cs, els[i]? = some cs → ∃ b o, ad = some ⟨b, o, none⟩ ∧ Old w b (o + i * sz) cs
theorem ElAt.keep {w w1 : World} {ad : Option Addr} {sz : Nat} {els : List (List Value)} {H : List HA} (h : ElAt w ad sz els) (hw : Hp w [] H w1) : ElAt w1 ad sz els := fun i cs hc => let ⟨b, o, e, h1⟩ := h i cs hc; ⟨b, o, e, h1.keep hw⟩
theorem open_els {H : Type} {enc : TypeId × Value → H} {P : Program} {w : World} {base : Nat} {spare : Nat → Bool} {held : Bool} {t e : TypeId} {fuel : Nat} {x : DataW H × List MemPlace} {ad : Option Addr} {l c : Nat} (ht : P.underlying t = some (.slice e)) (h1 : 0 < P.cellsOf e)
    (h : DataW.trod enc P w base spare held fuel t (Value.slice ad l c).cells.toList = some x) :
    ∃ els : List (List Value), els.length = l ∧ ElAt w ad (P.cellsOf e) els ∧ ∀ cs ∈ els, cs.length = P.cellsOf e ∧ ∃ fuel y, DataW.trod enc P w base spare held fuel e cs = some y := by
  rcases DataW.trod_slice ht h with ⟨hcs, _⟩ | ⟨a, len, cap, elems, rest, n, _, hcs, _, _, _, _, hlen, hel, _, _⟩
  · simp [Value.cells] at hcs
    obtain ⟨rfl, rfl, rfl⟩ := hcs
    exact ⟨[], rfl, fun i cs hi => by simp at hi, by simp⟩
  · simp [Value.cells] at hcs
    obtain ⟨rfl, rfl, rfl⟩ := hcs
    have each : ∀ i, i < l → ∃ cs y, w.cells? base (a.add (i * P.cellsOf e)) (P.cellsOf e) = some cs ∧ DataW.trod enc P w base spare held n e cs = some y := by
      intro i hi
      have h2 := hel i hi
      rw [List.getElem?_eq_getElem (by omega)] at h2
      obtain ⟨cs, h3, h4⟩ := Option.bind_eq_some_iff.1 h2
      exact ⟨cs, _, h3, h4⟩
    have cells : ∀ i cs, w.cells? base (a.add (i * P.cellsOf e)) (P.cellsOf e) = some cs → cs.length = P.cellsOf e ∧ ∀ j u, cs[j]? = some u → w.cell? ((a.add (i * P.cellsOf e)).add j) = some u := by
      intro i cs hc
      obtain ⟨h5, h6, h7⟩ := World.cells?_some hc
      refine ⟨h6, fun j u hj => ?_⟩
      have hl := (List.getElem?_eq_some_iff.1 hj).1
      rw [h7 j (by omega), hj]
    rcases Nat.eq_zero_or_pos l with h0 | hpos
    · subst h0
      exact ⟨[], rfl, fun i cs hi => by simp at hi, by simp⟩
    · obtain ⟨b, o, spot⟩ := a
      have hspot : spot = none := by
        obtain ⟨cs, y, hc, _⟩ := each 0 hpos
        obtain ⟨hl, hcell⟩ := cells 0 cs hc
        have h8 := hcell 0 (cs[0]'(by omega)) (List.getElem?_eq_getElem (by omega))
        have := World.cell?_spot h8
        simpa [Addr.add] using this
      subst hspot
      have pick : ∀ i, ∃ cs, i < l → (w.cells? base ((⟨b, o, none⟩ : Addr).add (i * P.cellsOf e)) (P.cellsOf e) = some cs ∧ ∃ y, DataW.trod enc P w base spare held n e cs = some y) := by
        intro i
        rcases Nat.lt_or_ge i l with hi | hi
        · obtain ⟨cs, y, h3, h4⟩ := each i hi
          exact ⟨cs, fun _ => ⟨h3, y, h4⟩⟩
        · exact ⟨[], fun h => by omega⟩
      refine ⟨(List.range l).map fun i => Classical.choose (pick i), by simp, ?_, ?_⟩
      · intro i cs hi
        have hil : i < l := by have := (List.getElem?_eq_some_iff.1 hi).1; simpa using this
        rw [List.getElem?_map, List.getElem?_range hil] at hi
        simp only [Option.map_some, Option.some.injEq] at hi
        obtain ⟨h3, _⟩ := Classical.choose_spec (pick i) hil
        rw [hi] at h3
        refine ⟨b, o, rfl, fun j u hj => ?_⟩
        have := (cells i cs h3).2 j u hj
        rwa [addr_add, addr_add] at this
      · intro cs hcs
        obtain ⟨i, hi, rfl⟩ := List.mem_map.1 hcs
        obtain ⟨h3, y, h4⟩ := Classical.choose_spec (pick i) (List.mem_range.1 hi)
        exact ⟨(cells i _ h3).1, n, y, h4⟩
/-- Numbers. -/
def Ints (w : World) (ad : Option Addr) (k : IntKind) (xs : List Int) : Prop := ∀ i (h : i < xs.length), ∃ b o, ad = some ⟨b, o, none⟩ ∧ w.cell? ⟨b, o + i, none⟩ = some (.int k xs[i])
theorem open_ints {H : Type} {enc : TypeId × Value → H} {P : Program} {w : World} {base : Nat} {spare : Nat → Bool} {held : Bool} {t e : TypeId} {k : IntKind} {fuel : Nat} {x : DataW H × List MemPlace} {ad : Option Addr} {l c : Nat} (ht : P.underlying t = some (.slice e)) (he : P.underlying e = some (.int k)) (h1 : P.cellsOf e = 1)
    (h : DataW.trod enc P w base spare held fuel t (Value.slice ad l c).cells.toList = some x) : ∃ xs : List Int, l = xs.length ∧ (∀ x ∈ xs, fits k x) ∧ Ints w ad k xs := by
  obtain ⟨els, h2, h3, h4⟩ := open_els ht (by omega) h
  obtain ⟨zs, hz, hzf⟩ : ∃ xs : List Int, els.map (fun cs => cs.headD (.bool false)) = xs.map (Value.int k) ∧ ∀ x ∈ xs, fits k x := ints_of fun v hv => by
    obtain ⟨cs, hcs, rfl⟩ := List.mem_map.1 hv
    obtain ⟨_, f, y, hy⟩ := h4 cs hcs
    obtain ⟨a, rfl, _, ha⟩ := DataW.trod_int he hy
    exact ⟨a, rfl, fits_wf ha⟩
  have hzl : zs.length = els.length := by have := congrArg List.length hz; simpa using this.symm
  refine ⟨zs, by omega, hzf, fun i hi => ?_⟩
  obtain ⟨b, o, e1, hold⟩ := h3 i els[i] (List.getElem?_eq_getElem (by omega))
  refine ⟨b, o, e1, ?_⟩
  have h5 : (els.map (fun cs => cs.headD (.bool false)))[i]? = (zs.map (Value.int k))[i]? := by rw [hz]
  rw [List.getElem?_map, List.getElem?_map, List.getElem?_eq_getElem (by omega), List.getElem?_eq_getElem hi] at h5
  simp only [Option.map_some, Option.some.injEq] at h5
  have hl := (h4 els[i] (List.getElem_mem _)).1
  have h6 := hold 0 (.int k zs[i]) (by
    rw [← h5]
    cases hc : els[i] with
    | nil => rw [hc] at hl; simp [h1] at hl
    | cons v vs => rfl)
  rwa [h1, Nat.mul_one, Nat.add_zero] at h6
end Go.Proofs.Ytghomncegjamfaa
