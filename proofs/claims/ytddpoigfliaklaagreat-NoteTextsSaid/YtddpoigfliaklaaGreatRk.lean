/- The walks of package turnstileref07. Written by program (walk.py) out of a table of contracts and invariants. -/
import Derived.Test.YtddpoigfliaklaaGreatMk2
import Derived.Test.YtddpoigfliaklaaGreatRf
namespace Go.Proofs.YtddpoigfliaklaaGreat
open Go.RowKit
set_option maxRecDepth 100000
set_option linter.unusedVariables false
set_option linter.unusedSimpArgs false
def tallV (l : List ByteArray) : Int := if okL l then (tallL l : Nat) else -1
theorem tallV_ok {l : List ByteArray} (h : okL l) : tallV l = (tallL l : Nat) := by unfold tallV; rw [if_pos h]
theorem tallV_bad {l : List ByteArray} (h : ¬ okL l) : tallV l = -1 := by unfold tallV; rw [if_neg h]
theorem tallV_odd {l : List ByteArray} {i : Nat} (hi : i < l.length) (h : (at0 l i).size ≠ 16) : tallV l = -1 := tallV_bad fun h2 => h (h2.2 _ (at0_mem hi))
theorem all16 {l : List ByteArray} {i : Nat} (h : ∀ j, j < i → (at0 l j).size = 16) (hi : i = l.length) : ∀ p ∈ l, p.size = 16 := fun p hp => by
  obtain ⟨j, hj⟩ := List.getElem?_of_mem hp
  have hl := (List.getElem?_eq_some_iff.1 hj).1
  have := h j (by omega)
  rwa [at0_eq hj] at this
theorem tallV_eq {l : List ByteArray} {n h : Nat} (hs : ∀ p ∈ l, p.size = 16) (hn : l.length = n) (hok : okN n) (ht : tallN n = h) : tallV l = ((h : Nat) : Int) := by
  rw [tallV_ok ⟨by rw [hn]; exact hok, hs⟩, tallL, hn, ht]
theorem tallV_none {l : List ByteArray} (h : ¬ okN l.length) : tallV l = -1 := tallV_bad fun h2 => h h2.1

theorem r7one_any (n : Int) (w : World) :
  Calls Tryz.prog 94 #[.int .i64 n] w fun e w' => e = .returned (.string (oneB n)) ∧ Ch [] w w' := by
 refine calls_of (n := 7) (E := [(0, .int .i64 n)]) (W := Hp w [] []) Tryz.func94 rfl rfl (Nat.le_of_ble_eq_true rfl) rfl (Hp.nil _ _) ?_
 refine jsr ?_
 refine jz ?_
 refine jnt ?_
 refine jsr ?_
 refine jz ?_
 refine jy (y_conv_u8 rfl) ?_
 refine jl_m rfl (by decide) rfl (m_buildSlice (by decide) (Built.cell rfl rfl rfl (by repeat constructor) Built.nil)) (fun b5 => ?_)
 refine jy (y_str_own rfl (by first | exact mem0 | exact mem1 | exact mem2 | exact mem3 | exact mem4 | exact mem5) (by repeat constructor)) ?_
 refine jl_as (u := .string (oneB n)) rfl ?_
 refine jz ?_
 refine jnt ?_
 refine jc_ret ?_
 refine jq_ret1 rfl rfl ?_
 exact fun _ hw => ⟨rfl, hw.ch⟩

end Go.Proofs.YtddpoigfliaklaaGreat