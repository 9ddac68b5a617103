/- The calculus, part eleven: what comes in: arrays of numbers, slices of numbers. -/
import Derived.Test.YtghomncegjamfaaJh
import Derived.WideKeyArr2
namespace Go.Proofs.Ytghomncegjamfaa
open Go.RowKit Go.WideShapes Go.ChangeShapes Go.WideMaps

section
variable {H : Type} {enc : TypeId × Value → H} {P : Program} {k e : TypeId} {n : Nat} {q : IntKind} {W : World} {base : Nat} {sp : Nat → Bool} {held : Bool}
theorem mapM_ints (he : P.underlying e = some (.int q)) {m : Nat} {cs : List Value} : ∀ (L : List Nat) (xs : List (DataW H × List MemPlace)),
    L.mapM (fun i => DataW.trod enc P W base sp held m e ((cs.drop (i * 1)).take 1)) = some xs → ∀ i ∈ L, ∃ a, cs[i]? = some (.int q a) ∧ fits q a
  | [], _, _, i, hi => by cases hi
  | j :: L, xs, h, i, hi => by
    rw [List.mapM_cons] at h
    simp only [bind, Option.bind_eq_some_iff, pure, Option.some.injEq] at h
    obtain ⟨y, hy, ys, hys, rfl⟩ := h
    rcases List.mem_cons.1 hi with rfl | hi
    · obtain ⟨a, ea, _, wa⟩ := DataW.trod_int he hy
      refine ⟨a, ?_, fits_wf wa⟩
      have := congrArg (·[0]?) ea
      simpa [List.getElem?_take, List.getElem?_drop] using this
    · exact mapM_ints he L ys hys i hi
theorem ints_of {l : List Value} (h : ∀ v ∈ l, ∃ a, v = .int q a ∧ fits q a) : ∃ xs : List Int, l = xs.map (Value.int q) ∧ ∀ x ∈ xs, fits q x := by
  induction l with
  | nil => exact ⟨[], rfl, by simp⟩
  | cons v l ih =>
    obtain ⟨a, rfl, ha⟩ := h v (by simp)
    obtain ⟨xs, rfl, hx⟩ := ih (fun u hu => h u (by simp [hu]))
    exact ⟨a :: xs, rfl, by simpa using ⟨ha, hx⟩⟩
/-- An array of numbers. -/
theorem open_arrI (hu : P.underlying k = some (.array n e)) (he : P.underlying e = some (.int q)) (h1 : P.cellsOf e = 1) (hn : P.cellsOf k = n) {r : Reach} {b0 : Nat} {v : Value} {d : DataW H} {ps : List MemPlace} (hval : Value.okWide P W r b0 k v) (hd : DataW.Trod enc P W base sp held k v d ps) :
    ∃ xs : List Int, xs.length = n ∧ v = .agg (xs.map (Value.int q)).toArray ∧ ∀ x ∈ xs, fits q x := by
  have hv : ∃ cs : Array Value, v = .agg cs ∧ cs.size = n := by
    simp only [Value.okWide, hu] at hval
    obtain ⟨cs, e1, e2, _⟩ := hval
    exact ⟨cs, e1, by rw [e2, hn]⟩
  obtain ⟨cs, rfl, hs⟩ := hv
  obtain ⟨fuel, hf⟩ := hd
  cases fuel with
  | zero => simp [DataW.trod] at hf
  | succ m =>
    rw [DataW.trod_step] at hf
    unfold DataW.trodStep at hf
    simp only [hu, Value.cells] at hf
    rw [if_pos (by rw [hn]; simpa using hs)] at hf
    simp only [Option.map_eq_some_iff, h1] at hf
    obtain ⟨xs, hx, _⟩ := hf
    have hall := mapM_ints he _ xs hx
    obtain ⟨zs, hz, hzf⟩ := ints_of (q := q) (l := cs.toList) (fun v hv => by
      obtain ⟨i, hi, hiv⟩ := List.getElem_of_mem hv
      obtain ⟨a, ha, hfa⟩ := hall i (by rw [List.mem_range]; simpa [hs] using hi)
      rw [List.getElem?_eq_getElem hi, hiv] at ha
      exact ⟨a, Option.some.inj ha, hfa⟩)
    refine ⟨zs, ?_, ?_, hzf⟩
    · have := congrArg List.length hz
      simp at this
      omega
    · rw [← hz]
end
theorem list_two {α : Type} {z : List α} (h : z.length = 2) : ∃ a b, z = [a, b] := by
  match z, h with
  | [a, b], _ => exact ⟨a, b, rfl⟩
theorem list_three {α : Type} {z : List α} (h : z.length = 3) : ∃ a b c, z = [a, b, c] := by
  match z, h with
  | [a, b, c], _ => exact ⟨a, b, c, rfl⟩
theorem list_four {α : Type} {z : List α} (h : z.length = 4) : ∃ a b c d, z = [a, b, c, d] := by
  match z, h with
  | [a, b, c, d], _ => exact ⟨a, b, c, d, rfl⟩
end Go.Proofs.Ytghomncegjamfaa
