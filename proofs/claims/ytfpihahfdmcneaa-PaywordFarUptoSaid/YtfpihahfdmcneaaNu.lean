/- The walks of packages num and turnstileref01. Written by program (walk.py) out of a table of contracts and invariants. -/
import Derived.Test.YtfpihahfdmcneaaMnum
import Derived.Test.YtfpihahfdmcneaaTd
import Derived.Test.YtfpihahfdmcneaaJj
namespace Go.Proofs.Ytfpihahfdmcneaa
open Go.RowKit
set_option maxRecDepth 100000
set_option linter.unusedVariables false
set_option linter.unusedSimpArgs false

theorem nproduct_any (a b : Int) (w : World) (ha : fits .u64 a) (hb : fits .u64 b) :
    Calls Try.prog 34 #[.int .u64 a, .int .u64 b] w fun e w' => e = .returned (.tuple #[.int .u64 (a * b / 18446744073709551616), .int .u64 (a * b % 18446744073709551616)]) ∧ Ch [] w w' := by
  simp only [fits] at ha hb
  have hp := prod_halves a b ha.1 ha.2 hb.1 hb.2
  refine calls_of (n := 50) (E := [(0, .int .u64 a), (1, .int .u64 b)]) (W := Hp w [] []) Try.func34 rfl rfl (Nat.le_of_ble_eq_true rfl) rfl (Hp.nil _ _) ?_
  refine jc_seq ?_
  -- region 0
  refine jc_region ?_
  refine jl_y rfl (by decide) rfl (y_assign rfl) ?_
  refine jl_y rfl (by decide) rfl (y_assign rfl) ?_
  refine jl_nil ?_
  refine jq_then ?_
  refine jc_seq ?_
  -- region 1
  refine jc_region ?_
  refine jl_y rfl (by decide) rfl (y_move rfl) ?_
  refine jl_y rfl (by decide) rfl (y_shr_by (m := 4294967296) rfl rfl (by decide) (by decide) (by decide)) ?_
  refine jl_y rfl (by decide) rfl (y_move rfl) ?_
  refine jl_y rfl (by decide) rfl (y_and rfl rfl) ?_
  refine jl_as (congrArg _ (and_low32 _)) ?_
  refine jl_y rfl (by decide) rfl (y_move rfl) ?_
  refine jl_y rfl (by decide) rfl (y_shr_by (m := 4294967296) rfl rfl (by decide) (by decide) (by decide)) ?_
  refine jl_y rfl (by decide) rfl (y_move rfl) ?_
  refine jl_y rfl (by decide) rfl (y_and rfl rfl) ?_
  refine jl_as (congrArg _ (and_low32 _)) ?_
  refine jl_y rfl (by decide) rfl (y_assign rfl) ?_
  refine jl_y rfl (by decide) rfl (y_assign rfl) ?_
  refine jl_y rfl (by decide) rfl (y_assign rfl) ?_
  refine jl_y rfl (by decide) rfl (y_assign rfl) ?_
  refine jl_nil ?_
  refine jq_then ?_
  refine jc_seq ?_
  -- region 2
  refine jc_region ?_
  refine jl_y rfl (by decide) rfl (y_move rfl) ?_
  refine jl_y rfl (by decide) rfl (y_move rfl) ?_
  refine jl_y rfl (by decide) rfl (y_mul_u64 rfl rfl) ?_
  refine jl_y rfl (by decide) rfl (y_move rfl) ?_
  refine jl_y rfl (by decide) rfl (y_move rfl) ?_
  refine jl_y rfl (by decide) rfl (y_mul_u64 rfl rfl) ?_
  refine jl_y rfl (by decide) rfl (y_shr_by (m := 4294967296) rfl rfl (by decide) (by decide) (by decide)) ?_
  refine jl_y rfl (by decide) rfl (y_add_u64 rfl rfl) ?_
  refine jl_as (u := .int .u64 (midF a b)) rfl ?_
  refine jl_y rfl (by decide) rfl (y_assign rfl) ?_
  refine jl_nil ?_
  refine jq_then ?_
  refine jc_seq ?_
  -- region 3
  refine jc_region ?_
  refine jl_y rfl (by decide) rfl (y_move rfl) ?_
  refine jl_y rfl (by decide) rfl (y_move rfl) ?_
  refine jl_y rfl (by decide) rfl (y_mul_u64 rfl rfl) ?_
  refine jl_y rfl (by decide) rfl (y_move rfl) ?_
  refine jl_y rfl (by decide) rfl (y_and rfl rfl) ?_
  refine jl_as (congrArg _ (and_low32 _)) ?_
  refine jl_y rfl (by decide) rfl (y_add_u64 rfl rfl) ?_
  refine jl_as (u := .int .u64 (otherF a b)) rfl ?_
  refine jl_y rfl (by decide) rfl (y_assign rfl) ?_
  refine jl_nil ?_
  refine jq_then ?_
  refine jc_seq ?_
  -- region 4
  refine jc_region ?_
  refine jl_y rfl (by decide) rfl (y_move rfl) ?_
  refine jl_y rfl (by decide) rfl (y_move rfl) ?_
  refine jl_y rfl (by decide) rfl (y_mul_u64 rfl rfl) ?_
  refine jl_y rfl (by decide) rfl (y_move rfl) ?_
  refine jl_y rfl (by decide) rfl (y_shr_by (m := 4294967296) rfl rfl (by decide) (by decide) (by decide)) ?_
  refine jl_y rfl (by decide) rfl (y_add_u64 rfl rfl) ?_
  refine jl_y rfl (by decide) rfl (y_move rfl) ?_
  refine jl_y rfl (by decide) rfl (y_shr_by (m := 4294967296) rfl rfl (by decide) (by decide) (by decide)) ?_
  refine jl_y rfl (by decide) rfl (y_add_u64 rfl rfl) ?_
  refine jl_as (u := .int .u64 (a * b / 18446744073709551616)) (congrArg _ hp.1) ?_
  refine jl_y rfl (by decide) rfl (y_move rfl) ?_
  refine jl_y rfl (by decide) rfl (y_shl_by_u64 (m := 4294967296) rfl rfl (by decide) (by decide) (by decide)) ?_
  refine jl_y rfl (by decide) rfl (y_move rfl) ?_
  refine jl_y rfl (by decide) rfl (y_move rfl) ?_
  refine jl_y rfl (by decide) rfl (y_mul_u64 rfl rfl) ?_
  refine jl_y rfl (by decide) rfl (y_and rfl rfl) ?_
  refine jl_as (congrArg _ (and_low32 _)) ?_
  refine jl_y rfl (by decide) rfl (y_or rfl rfl) ?_
  refine jl_as (u := .int .u64 (a * b % 18446744073709551616)) (congrArg _ ((or_half _ _ (by omega) (by omega)).trans hp.2)) ?_
  refine jl_y rfl (by decide) rfl (y_assign rfl) ?_
  refine jl_y rfl (by decide) rfl (y_assign rfl) ?_
  refine jl_nil ?_
  refine jq_then ?_
  refine jc_ret ?_
  refine jq_ret2 rfl rfl rfl ?_
  exact fun _ hw => ⟨rfl, hw.ch⟩

theorem mul_any (a b : Int) (w : World) (ha : fits .u64 a) (hb : fits .u64 b) :
    Calls Try.prog 29 #[.int .u64 a, .int .u64 b] w fun e w' => e = .returned (.tuple #[.int .u64 (mulV a b), .int .i64 (mulE a b)]) ∧ Ch [] w w' := by
  simp only [fits] at ha hb
  have hn := prod_nonneg ha.1 hb.1
  have hn2 := prod_lt ha.1 ha.2 hb.1 hb.2
  refine calls_of (n := 17) (E := [(0, .int .u64 a), (1, .int .u64 b)]) (W := Hp w [] []) Try.func29 rfl rfl (Nat.le_of_ble_eq_true rfl) rfl (Hp.nil _ _) ?_
  refine jc_seq ?_
  -- region 0
  refine jc_region ?_
  refine jl_y rfl (by decide) rfl (y_assign rfl) ?_
  refine jl_y rfl (by decide) rfl (y_assign rfl) ?_
  refine jl_nil ?_
  refine jq_then ?_
  refine jc_seq ?_
  -- region 1
  refine jc_region ?_
  refine jl_y rfl (by decide) rfl (y_move rfl) ?_
  refine jl_y rfl (by decide) rfl (y_move rfl) ?_
  refine jl_pcall rfl (by decide) rfl (goes_func rfl) (fun w1 hw1 => pcall hw1 (nproduct_any _ _ w1 (by simp only [fits] at *; omega) (by simp only [fits] at *; omega))) ?_
  refine jl_y rfl (by decide) rfl (y_move rfl) ?_
  refine jl_y rfl (by decide) rfl (y_extract rfl rfl) ?_
  refine jl_y rfl (by decide) rfl (y_extract rfl rfl) ?_
  refine jl_y rfl (by decide) rfl (y_assign rfl) ?_
  refine jl_y rfl (by decide) rfl (y_assign rfl) ?_
  refine jl_nil ?_
  refine jq_then ?_
  refine jc_seq ?_
  refine jc_seq ?_
  -- region 2
  refine jc_region ?_
  refine jl_y rfl (by decide) rfl (y_move rfl) ?_
  refine jl_y rfl (by decide) rfl (y_gtr rfl rfl) ?_
  refine jl_prop (fun h15 => ?_) (fun h15 => ?_)
  · first
    | (exfalso; omega)
    | (
      refine jl_nil ?_
      refine jq_then ?_
      refine jc_true rfl ?_
      refine jc_seq ?_
      -- region 3
      refine jc_region ?_
      refine jl_y rfl (by decide) rfl (y_assign rfl) ?_
      refine jl_y rfl (by decide) rfl (y_assign rfl) ?_
      refine jl_nil ?_
      refine jq_then ?_
      refine jc_ret ?_
      refine jq_then_ret ?_
      refine jq_ret2 rfl rfl rfl ?_
      exact fun _ hw => ⟨by unfold mulV mulE; rw [if_pos (by omega), if_pos (by omega)], hw.ch⟩
      )
  · first
    | (exfalso; omega)
    | (
      refine jl_nil ?_
      refine jq_then ?_
      refine jc_false rfl ?_
      refine jc_skip ?_
      refine jq_then ?_
      refine jc_seq ?_
      -- region 4
      refine jc_region ?_
      refine jl_y rfl (by decide) rfl (y_move rfl) ?_
      refine jl_y rfl (by decide) rfl (y_assign rfl) ?_
      refine jl_y rfl (by decide) rfl (y_assign rfl) ?_
      refine jl_nil ?_
      refine jq_then ?_
      refine jc_ret ?_
      refine jq_ret2 rfl rfl rfl ?_
      exact fun _ hw => ⟨by unfold mulV mulE; rw [if_neg (by omega), if_neg (by omega)]; exact congrArg (fun z => Ending.returned (.tuple #[.int .u64 z, .int .i64 0])) (Int.emod_eq_of_lt hn (by omega)), hw.ch⟩
      )

theorem add_any (a b : Int) (w : World) (ha : fits .u64 a) (hb : fits .u64 b) :
    Calls Try.prog 22 #[.int .u64 a, .int .u64 b] w fun e w' => e = .returned (.tuple #[.int .u64 (addV a b), .int .i64 (addE a b)]) ∧ Ch [] w w' := by
  simp only [fits] at ha hb
  refine calls_of (n := 14) (E := [(0, .int .u64 a), (1, .int .u64 b)]) (W := Hp w [] []) Try.func22 rfl rfl (Nat.le_of_ble_eq_true rfl) rfl (Hp.nil _ _) ?_
  refine jc_seq ?_
  -- region 0
  refine jc_region ?_
  refine jl_y rfl (by decide) rfl (y_assign rfl) ?_
  refine jl_y rfl (by decide) rfl (y_assign rfl) ?_
  refine jl_nil ?_
  refine jq_then ?_
  refine jc_seq ?_
  refine jc_seq ?_
  -- region 1
  refine jc_region ?_
  refine jl_y rfl (by decide) rfl (y_move rfl) ?_
  refine jl_y rfl (by decide) rfl (y_move rfl) ?_
  refine jl_y rfl (by decide) rfl (y_add_u64 rfl rfl) ?_
  refine jl_y rfl (by decide) rfl (y_move rfl) ?_
  refine jl_y rfl (by decide) rfl (y_lss rfl rfl) ?_
  refine jl_prop (fun h10 => ?_) (fun h10 => ?_)
  · first
    | (exfalso; omega)
    | (
      refine jl_nil ?_
      refine jq_then ?_
      refine jc_true rfl ?_
      refine jc_seq ?_
      -- region 2
      refine jc_region ?_
      refine jl_y rfl (by decide) rfl (y_assign rfl) ?_
      refine jl_y rfl (by decide) rfl (y_assign rfl) ?_
      refine jl_nil ?_
      refine jq_then ?_
      refine jc_ret ?_
      refine jq_then_ret ?_
      refine jq_ret2 rfl rfl rfl ?_
      exact fun _ hw => ⟨by unfold addV addE; rw [if_pos (by omega), if_pos (by omega)], hw.ch⟩
      )
  · first
    | (exfalso; omega)
    | (
      refine jl_nil ?_
      refine jq_then ?_
      refine jc_false rfl ?_
      refine jc_skip ?_
      refine jq_then ?_
      refine jc_seq ?_
      -- region 3
      refine jc_region ?_
      refine jl_y rfl (by decide) rfl (y_move rfl) ?_
      refine jl_y rfl (by decide) rfl (y_move rfl) ?_
      refine jl_y rfl (by decide) rfl (y_add_u64 rfl rfl) ?_
      refine jl_y rfl (by decide) rfl (y_assign rfl) ?_
      refine jl_y rfl (by decide) rfl (y_assign rfl) ?_
      refine jl_nil ?_
      refine jq_then ?_
      refine jc_ret ?_
      refine jq_ret2 rfl rfl rfl ?_
      exact fun _ hw => ⟨by unfold addV addE; rw [if_neg (by omega), if_neg (by omega)]; exact congrArg (fun z => Ending.returned (.tuple #[.int .u64 z, .int .i64 0])) (Int.emod_eq_of_lt (by omega) (by omega)), hw.ch⟩
      )

theorem of_any (n : Int) (w : World) (hn : fits .i64 n) :
    Calls Try.prog 28 #[.int .i64 n] w fun e w' => e = .returned (.tuple #[.int .u64 (if n < 0 then 0 else n), .int .i64 (if n < 0 then 2 else 0)]) ∧ Ch [] w w' := by
  simp only [fits] at hn
  refine calls_of (n := 8) (E := [(0, .int .i64 n)]) (W := Hp w [] []) Try.func28 rfl rfl (Nat.le_of_ble_eq_true rfl) rfl (Hp.nil _ _) ?_
  refine jc_seq ?_
  -- region 0
  refine jc_region ?_
  refine jl_y rfl (by decide) rfl (y_assign rfl) ?_
  refine jl_y rfl (by decide) rfl (y_assign rfl) ?_
  refine jl_nil ?_
  refine jq_then ?_
  refine jc_seq ?_
  refine jc_seq ?_
  -- region 1
  refine jc_region ?_
  refine jl_y rfl (by decide) rfl (y_move rfl) ?_
  refine jl_y rfl (by decide) rfl (y_lss rfl rfl) ?_
  refine jl_prop (fun h5 => ?_) (fun h5 => ?_)
  · first
    | (exfalso; omega)
    | (
      refine jl_nil ?_
      refine jq_then ?_
      refine jc_true rfl ?_
      refine jc_seq ?_
      -- region 2
      refine jc_region ?_
      refine jl_y rfl (by decide) rfl (y_assign rfl) ?_
      refine jl_y rfl (by decide) rfl (y_assign rfl) ?_
      refine jl_nil ?_
      refine jq_then ?_
      refine jc_ret ?_
      refine jq_then_ret ?_
      refine jq_ret2 rfl rfl rfl ?_
      exact fun _ hw => ⟨by rw [if_pos (by omega), if_pos (by omega)], hw.ch⟩
      )
  · first
    | (exfalso; omega)
    | (
      refine jl_nil ?_
      refine jq_then ?_
      refine jc_false rfl ?_
      refine jc_skip ?_
      refine jq_then ?_
      refine jc_seq ?_
      -- region 3
      refine jc_region ?_
      refine jl_y rfl (by decide) rfl (y_move rfl) ?_
      first | refine jl_y rfl (by decide) rfl (y_conv_fits rfl (by simp only [fits]; omega)) ?_ | refine jl_y rfl (by decide) rfl (y_conv_u64 rfl) ?_
      refine jl_y rfl (by decide) rfl (y_assign rfl) ?_
      refine jl_y rfl (by decide) rfl (y_assign rfl) ?_
      refine jl_nil ?_
      refine jq_then ?_
      refine jc_ret ?_
      refine jq_ret2 rfl rfl rfl ?_
      exact fun _ hw => ⟨by rw [if_neg (by omega), if_neg (by omega)], hw.ch⟩
      )

theorem rtop_any (w : World) :
    Calls Try.prog 35 #[] w fun e w' => e = .returned (.int .u64 18446744073709551615) ∧ Ch [] w w' := by
  refine calls_of (n := 1) (E := []) (W := Hp w [] []) Try.func35 rfl rfl (Nat.le_of_ble_eq_true rfl) rfl (Hp.nil _ _) ?_
  refine jc_seq ?_
  -- region 0
  refine jc_region ?_
  refine jl_y rfl (by decide) rfl (y_assign rfl) ?_
  refine jl_nil ?_
  refine jq_then ?_
  refine jc_seq ?_
  -- region 1
  refine jc_region ?_
  refine jl_y rfl (by decide) rfl (y_assign rfl) ?_
  refine jl_nil ?_
  refine jq_then ?_
  refine jc_ret ?_
  refine jq_ret1 rfl rfl ?_
  exact fun _ hw => ⟨rfl, hw.ch⟩

theorem rmul_any (a b : Int) (w : World) (ha : fits .u64 a) (hb : fits .u64 b) :
    Calls Try.prog 30 #[.int .u64 a, .int .u64 b] w fun e w' => e = .returned (.tuple #[.int .u64 (mulV a b), .int .i64 (mulE a b)]) ∧ Ch [] w w' := by
  simp only [fits] at ha hb
  have hn := prod_nonneg ha.1 hb.1
  have hov := mul_over a b
  have hz : a = 0 → a * b = 0 := fun h => by rw [h, Int.zero_mul]
  have hd : 0 ≤ 18446744073709551615 / a := Int.ediv_nonneg (by decide) ha.1
  have hd2 : 18446744073709551615 / a ≤ 18446744073709551615 := Int.ediv_le_self _ (by decide)
  refine calls_of (n := 18) (E := [(0, .int .u64 a), (1, .int .u64 b)]) (W := Hp w [] []) Try.func30 rfl rfl (Nat.le_of_ble_eq_true rfl) rfl (Hp.nil _ _) ?_
  refine jc_seq ?_
  -- region 0
  refine jc_region ?_
  refine jl_y rfl (by decide) rfl (y_assign rfl) ?_
  refine jl_y rfl (by decide) rfl (y_assign rfl) ?_
  refine jl_nil ?_
  refine jq_then ?_
  refine jc_seq ?_
  refine jc_seq ?_
  -- region 1
  refine jc_region ?_
  refine jl_y rfl (by decide) rfl (y_move rfl) ?_
  refine jl_y rfl (by decide) rfl (y_gtr rfl rfl) ?_
  refine jl_prop (fun h7 => ?_) (fun h7 => ?_)
  · first
    | (exfalso; omega)
    | (
      refine jl_y rfl (by decide) rfl (y_move rfl) ?_
      refine jl_y rfl (by decide) rfl (y_move rfl) ?_
      refine jl_pcall rfl (by decide) rfl (goes_func rfl) (fun w1 hw1 => pcall hw1 (rtop_any w1)) ?_
      refine jl_y rfl (by decide) rfl (y_move rfl) ?_
      refine jl_y rfl (by decide) rfl (y_quo rfl rfl (by omega) (by omega) (by simp only [fits]; omega)) ?_
      refine jl_y rfl (by decide) rfl (y_gtr rfl rfl) ?_
      refine jl_prop (fun h13 => ?_) (fun h13 => ?_)
      · first
        | (exfalso; omega)
        | (
          refine jl_y rfl (by decide) rfl (y_pick_true rfl rfl) ?_
          refine jl_nil ?_
          refine jq_then ?_
          refine jc_true rfl ?_
          refine jc_seq ?_
          -- region 2
          refine jc_region ?_
          refine jl_y rfl (by decide) rfl (y_assign rfl) ?_
          refine jl_y rfl (by decide) rfl (y_assign rfl) ?_
          refine jl_nil ?_
          refine jq_then ?_
          refine jc_ret ?_
          refine jq_then_ret ?_
          refine jq_ret2 rfl rfl rfl ?_
          exact fun _ hw => ⟨by unfold mulV mulE; first | (have hx : 18446744073709551616 ≤ a * b := (hov (by omega)).1 (by omega); rw [if_pos hx, if_pos hx]) | (have hx : ¬ 18446744073709551616 ≤ a * b := (by intro h; have h3 := (hov (by omega)).2 h; omega); rw [if_neg hx, if_neg hx]; exact congrArg (fun z => Ending.returned (.tuple #[.int .u64 z, .int .i64 0])) (Int.emod_eq_of_lt hn (by omega))), hw.ch⟩
          )
      · first
        | (exfalso; omega)
        | (
          refine jl_y rfl (by decide) rfl (y_pick_true rfl rfl) ?_
          refine jl_nil ?_
          refine jq_then ?_
          refine jc_false rfl ?_
          refine jc_skip ?_
          refine jq_then ?_
          refine jc_seq ?_
          -- region 3
          refine jc_region ?_
          refine jl_y rfl (by decide) rfl (y_move rfl) ?_
          refine jl_y rfl (by decide) rfl (y_move rfl) ?_
          refine jl_y rfl (by decide) rfl (y_mul_u64 rfl rfl) ?_
          refine jl_y rfl (by decide) rfl (y_assign rfl) ?_
          refine jl_y rfl (by decide) rfl (y_assign rfl) ?_
          refine jl_nil ?_
          refine jq_then ?_
          refine jc_ret ?_
          refine jq_ret2 rfl rfl rfl ?_
          exact fun _ hw => ⟨by unfold mulV mulE; first | (have hx : 18446744073709551616 ≤ a * b := (hov (by omega)).1 (by omega); rw [if_pos hx, if_pos hx]) | (have hx : ¬ 18446744073709551616 ≤ a * b := (by intro h; have h3 := (hov (by omega)).2 h; omega); rw [if_neg hx, if_neg hx]; exact congrArg (fun z => Ending.returned (.tuple #[.int .u64 z, .int .i64 0])) (Int.emod_eq_of_lt hn (by omega))), hw.ch⟩
          )
      )
  · first
    | (exfalso; omega)
    | (
      refine jl_y rfl (by decide) rfl (y_move rfl) ?_
      refine jl_skip rfl (by decide) rfl ?_
      refine jl_skip rfl (by decide) rfl ?_
      refine jl_skip rfl (by decide) rfl ?_
      refine jl_skip rfl (by decide) rfl ?_
      refine jl_skip rfl (by decide) rfl ?_
      refine jl_y rfl (by decide) rfl (y_pick_false rfl rfl) ?_
      refine jl_nil ?_
      refine jq_then ?_
      refine jc_false rfl ?_
      refine jc_skip ?_
      refine jq_then ?_
      refine jc_seq ?_
      -- region 3
      refine jc_region ?_
      refine jl_y rfl (by decide) rfl (y_move rfl) ?_
      refine jl_y rfl (by decide) rfl (y_move rfl) ?_
      refine jl_y rfl (by decide) rfl (y_mul_u64 rfl rfl) ?_
      refine jl_y rfl (by decide) rfl (y_assign rfl) ?_
      refine jl_y rfl (by decide) rfl (y_assign rfl) ?_
      refine jl_nil ?_
      refine jq_then ?_
      refine jc_ret ?_
      refine jq_ret2 rfl rfl rfl ?_
      exact fun _ hw => ⟨by unfold mulV mulE; first | (have hx : 18446744073709551616 ≤ a * b := (hov (by omega)).1 (by omega); rw [if_pos hx, if_pos hx]) | (have hx : ¬ 18446744073709551616 ≤ a * b := (by intro h; have h3 := (hov (by omega)).2 h; omega); rw [if_neg hx, if_neg hx]; exact congrArg (fun z => Ending.returned (.tuple #[.int .u64 z, .int .i64 0])) (Int.emod_eq_of_lt hn (by omega))), hw.ch⟩
      )

end Go.Proofs.Ytfpihahfdmcneaa