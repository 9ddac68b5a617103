/- The walks of packages draw and turnstileref05. Written by program (walk.py) out of a table of contracts and invariants. -/
import Derived.Test.YtghomncegjamfaaGreatMdraw
import Derived.Test.YtghomncegjamfaaGreatNu
namespace Go.Proofs.YtghomncegjamfaaGreat
open Go.RowKit
set_option maxRecDepth 100000
set_option linter.unusedVariables false
set_option linter.unusedSimpArgs false
attribute [local irreducible] Yields Makes Writes

theorem dmay_any (m : Int) (w : World) (hm : fits .u64 m) :
  Calls Tryz.prog 44 #[.int .u64 m] w fun e w' => e = .returned (.bool (decide (1 ≤ m ∧ m ≤ 4294967296))) ∧ Ch [] w w' := by
 simp only [fits] at *
 refine calls_of (n := 9) (E := [(0, .int .u64 m)]) (W := Hp w [] []) Tryz.func44 rfl rfl (Nat.le_of_ble_eq_true rfl) rfl (Hp.nil _ _) ?_; refine jsr ?_; refine jz ?_; refine jnt ?_; refine jsr ?_; refine jz ?_; refine jy (y_geq rfl rfl) ?_; refine jl_prop (fun h4 => ?_) (fun h4 => ?_)
 ·first | (exfalso; omega) | ((iterate 2 refine jz ?_); refine jy (y_leq rfl rfl) ?_; refine jy (y_pick_true rfl rfl) ?_; refine jz ?_; refine jnt ?_; refine jc_ret ?_; refine jq_ret1 rfl rfl ?_; exact fun _ hw => ⟨congrArg (fun z => Ending.returned (Value.bool z)) (by first | exact (decide_eq_true (by omega)).symm | exact (decide_eq_false (by omega)).symm | (rw [decide_eq_decide]; omega)), hw.ch⟩)
 ·first | (exfalso; omega) | (refine jz ?_; (iterate 2 refine jsk ?_); refine jy (y_pick_false rfl rfl) ?_; refine jz ?_; refine jnt ?_; refine jc_ret ?_; refine jq_ret1 rfl rfl ?_; exact fun _ hw => ⟨congrArg (fun z => Ending.returned (Value.bool z)) (by first | exact (decide_eq_true (by omega)).symm | exact (decide_eq_false (by omega)).symm | (rw [decide_eq_decide]; omega)), hw.ch⟩)

theorem drmay_any (m : Int) (w : World) (hm : fits .u64 m) :
  Calls Tryz.prog 80 #[.int .u64 m] w fun e w' => e = .returned (.bool (decide (1 ≤ m ∧ m ≤ 4294967296))) ∧ Ch [] w w' := by
 simp only [fits] at *
 refine calls_of (n := 9) (E := [(0, .int .u64 m)]) (W := Hp w [] []) Tryz.func80 rfl rfl (Nat.le_of_ble_eq_true rfl) rfl (Hp.nil _ _) ?_; refine jsr ?_; refine jz ?_; refine jnt ?_; refine jsr ?_; refine jz ?_; refine jy (y_gtr rfl rfl) ?_; refine jl_prop (fun h4 => ?_) (fun h4 => ?_)
 ·first | (exfalso; omega) | ((iterate 2 refine jz ?_); refine jy (y_leq rfl rfl) ?_; refine jy (y_pick_true rfl rfl) ?_; refine jz ?_; refine jnt ?_; refine jc_ret ?_; refine jq_ret1 rfl rfl ?_; exact fun _ hw => ⟨congrArg (fun z => Ending.returned (Value.bool z)) (by first | exact (decide_eq_true (by omega)).symm | exact (decide_eq_false (by omega)).symm | (rw [decide_eq_decide]; omega)), hw.ch⟩)
 ·first | (exfalso; omega) | (refine jz ?_; (iterate 2 refine jsk ?_); refine jy (y_pick_false rfl rfl) ?_; refine jz ?_; refine jnt ?_; refine jc_ret ?_; refine jq_ret1 rfl rfl ?_; exact fun _ hw => ⟨congrArg (fun z => Ending.returned (Value.bool z)) (by first | exact (decide_eq_true (by omega)).symm | exact (decide_eq_false (by omega)).symm | (rw [decide_eq_decide]; omega)), hw.ch⟩)

theorem top_any (m : Int) (w : World) (hm : fits .u64 m) :
  Calls Tryz.prog 47 #[.int .u64 m] w fun e w' => e = .returned (.tuple #[.int .u64 (topV m), .int .i64 (topE m)]) ∧ Ch [] w w' := by
 simp only [fits] at *
 refine calls_of (n := 13) (E := [(0, .int .u64 m)]) (W := Hp w [] []) Tryz.func47 rfl rfl (Nat.le_of_ble_eq_true rfl) rfl (Hp.nil _ _) ?_; refine jsr ?_; (iterate 2 refine jz ?_); refine jnt ?_; refine jc_seq ?_; refine jsr ?_; refine jz ?_; refine jpc (goes_func rfl) (fun w1 hw1 => dmay_any _ w1 (by simp only [fits] at *; omega)) ?_; refine jl_prop (fun h5 => ?_) (fun h5 => ?_)
 ·skip
  refine jz ?_; refine jnt ?_; refine jc_false rfl ?_; refine jc_skip ?_; refine jq_then ?_; refine jsr ?_; refine jz ?_; refine jy (y_rem rfl rfl (by omega) (by omega)) ?_; refine jy (y_add_u64 rfl rfl) ?_; refine jz ?_; refine jy (y_rem rfl rfl (by omega) (by omega)) ?_; refine jy (y_sub_u64 rfl rfl) ?_; refine jl_as (congrArg _ (top_eq m h5)) ?_; (iterate 2 refine jz ?_); refine jnt ?_; refine jc_ret ?_; refine jq_ret2 rfl rfl rfl ?_; exact fun _ hw => ⟨by rw [topV_pos h5, topE_pos h5], hw.ch⟩
 ·skip
  refine jz ?_; refine jnt ?_; refine jc_true rfl ?_; refine jsr ?_; (iterate 2 refine jz ?_); refine jnt ?_; refine jc_ret ?_; refine jq_then_ret ?_; refine jq_ret2 rfl rfl rfl ?_; exact fun _ hw => ⟨by rw [topV_neg h5, topE_neg h5], hw.ch⟩

theorem fair_any (raw m : Int) (w : World) (hr : fits .u64 raw) (hm : fits .u64 m) :
  Calls Tryz.prog 24 #[.int .u64 raw, .int .u64 m] w fun e w' => e = .returned (.tuple #[.int .u64 (fairV raw m), .int .i64 (fairE raw m)]) ∧ Ch [] w w' := by
 simp only [fits] at *
 have hE1 := @topE_pos m
 have hE2 := @topE_neg m
 refine calls_of (n := 27) (E := [(0, .int .u64 raw), (1, .int .u64 m)]) (W := Hp w [] []) Tryz.func24 rfl rfl (Nat.le_of_ble_eq_true rfl) rfl (Hp.nil _ _) ?_; refine jsr ?_; (iterate 2 refine jz ?_); refine jnt ?_; refine jsr ?_; refine jz ?_; refine jpc (goes_func rfl) (fun w1 hw1 => top_any _ w1 (by simp only [fits] at *; omega)) ?_; (iterate 5 refine jz ?_); refine jnt ?_; refine jc_seq ?_; refine jc_block ?_; refine jc_seq ?_; refine jc_block ?_; refine jc_seq ?_; refine jc_block ?_; (iterate 2 refine jc_seq ?_); refine jsr ?_; refine jz ?_; refine jy (y_eql rfl rfl) ?_; refine jl_prop (fun h14 => ?_) (fun h14 => ?_)
 ·first | (exfalso; omega) | (
   (iterate 3 refine jz ?_); refine jy (y_gtr rfl rfl) ?_; refine jl_prop (fun h18 => ?_) (fun h18 => ?_)
   ·first | (exfalso; omega) | (refine jy (y_pick_true rfl rfl) ?_; refine jz ?_; refine jnt ?_; refine jc_true rfl ?_; refine jc_exit ?_; (iterate 2 refine jq_then_exit ?_); refine jq_hit ?_; refine jq_then ?_; refine jc_region ?_; refine jz ?_; refine jl_nil ?_; refine jq_block ?_; refine jq_then ?_; refine jc_seq ?_; refine jsr ?_; (iterate 3 refine jz ?_); refine jnt ?_; refine jc_ret ?_; refine jq_then_ret ?_; refine jq_block_ret ?_; refine jq_then_ret ?_; refine jq_ret2 rfl rfl rfl ?_; exact fun _ hw => ⟨by first | (have f1 := @fair_high raw m (by omega) (by omega); rw [f1.1, f1.2]; done) | (have f1 := @fair_pos raw m (by omega) (by omega); rw [f1.1, f1.2]; done) | (have f1 := @fair_neg raw m (by omega); rw [f1.1, f1.2]; exact congrArg (fun z => Ending.returned (.tuple #[.int .u64 0, .int .i64 z])) (by omega)), hw.ch⟩)
   ·first | (exfalso; omega) | (
     refine jy (y_pick_true rfl rfl) ?_; refine jz ?_; refine jnt ?_; refine jc_false rfl ?_; refine jc_skip ?_; refine jq_then ?_; refine jsr ?_; refine jz ?_; refine jy (y_neq rfl rfl) ?_; refine jl_prop (fun h22 => ?_) (fun h22 => ?_)
     ·first | (exfalso; omega) | (refine jz ?_; refine jnt ?_; refine jc_true rfl ?_; refine jc_exit ?_; refine jq_then_exit ?_; refine jq_miss rfl ?_; refine jq_then_exit ?_; refine jq_hit ?_; refine jq_then ?_; refine jc_seq ?_; refine jsr ?_; (iterate 3 refine jz ?_); refine jnt ?_; refine jc_ret ?_; refine jq_then_ret ?_; refine jq_block_ret ?_; refine jq_then_ret ?_; refine jq_ret2 rfl rfl rfl ?_; exact fun _ hw => ⟨by first | (have f1 := @fair_high raw m (by omega) (by omega); rw [f1.1, f1.2]; done) | (have f1 := @fair_pos raw m (by omega) (by omega); rw [f1.1, f1.2]; done) | (have f1 := @fair_neg raw m (by omega); rw [f1.1, f1.2]; exact congrArg (fun z => Ending.returned (.tuple #[.int .u64 0, .int .i64 z])) (by omega)), hw.ch⟩)
     ·first | (exfalso; omega) | (refine jz ?_; refine jnt ?_; refine jc_false rfl ?_; refine jc_skip ?_; refine jq_then ?_; refine jc_exit ?_; refine jq_miss rfl ?_; refine jq_then_exit ?_; refine jq_miss rfl ?_; refine jq_then_exit ?_; refine jq_hit ?_; refine jq_then ?_; refine jsr ?_; (iterate 2 refine jz ?_); refine jy (y_rem rfl rfl (by omega) (by omega)) ?_; (iterate 2 refine jz ?_); refine jnt ?_; refine jc_ret ?_; refine jq_ret2 rfl rfl rfl ?_; exact fun _ hw => ⟨by first | (have f1 := @fair_high raw m (by omega) (by omega); rw [f1.1, f1.2]; done) | (have f1 := @fair_pos raw m (by omega) (by omega); rw [f1.1, f1.2]; done) | (have f1 := @fair_neg raw m (by omega); rw [f1.1, f1.2]; exact congrArg (fun z => Ending.returned (.tuple #[.int .u64 0, .int .i64 z])) (by omega)), hw.ch⟩)
     )
   )
 ·first | (exfalso; omega) | (
   refine jz ?_; (iterate 3 refine jsk ?_); refine jy (y_pick_false rfl rfl) ?_; refine jz ?_; refine jnt ?_; refine jc_false rfl ?_; refine jc_skip ?_; refine jq_then ?_; refine jsr ?_; refine jz ?_; refine jy (y_neq rfl rfl) ?_; refine jl_prop (fun h22 => ?_) (fun h22 => ?_)
   ·first | (exfalso; omega) | (refine jz ?_; refine jnt ?_; refine jc_true rfl ?_; refine jc_exit ?_; refine jq_then_exit ?_; refine jq_miss rfl ?_; refine jq_then_exit ?_; refine jq_hit ?_; refine jq_then ?_; refine jc_seq ?_; refine jsr ?_; (iterate 3 refine jz ?_); refine jnt ?_; refine jc_ret ?_; refine jq_then_ret ?_; refine jq_block_ret ?_; refine jq_then_ret ?_; refine jq_ret2 rfl rfl rfl ?_; exact fun _ hw => ⟨by first | (have f1 := @fair_high raw m (by omega) (by omega); rw [f1.1, f1.2]; done) | (have f1 := @fair_pos raw m (by omega) (by omega); rw [f1.1, f1.2]; done) | (have f1 := @fair_neg raw m (by omega); rw [f1.1, f1.2]; exact congrArg (fun z => Ending.returned (.tuple #[.int .u64 0, .int .i64 z])) (by omega)), hw.ch⟩)
   ·first | (exfalso; omega) | (refine jz ?_; refine jnt ?_; refine jc_false rfl ?_; refine jc_skip ?_; refine jq_then ?_; refine jc_exit ?_; refine jq_miss rfl ?_; refine jq_then_exit ?_; refine jq_miss rfl ?_; refine jq_then_exit ?_; refine jq_hit ?_; refine jq_then ?_; refine jsr ?_; (iterate 2 refine jz ?_); refine jy (y_rem rfl rfl (by omega) (by omega)) ?_; (iterate 2 refine jz ?_); refine jnt ?_; refine jc_ret ?_; refine jq_ret2 rfl rfl rfl ?_; exact fun _ hw => ⟨by first | (have f1 := @fair_high raw m (by omega) (by omega); rw [f1.1, f1.2]; done) | (have f1 := @fair_pos raw m (by omega) (by omega); rw [f1.1, f1.2]; done) | (have f1 := @fair_neg raw m (by omega); rw [f1.1, f1.2]; exact congrArg (fun z => Ending.returned (.tuple #[.int .u64 0, .int .i64 z])) (by omega)), hw.ch⟩)
   )

theorem wins_any (d c w0 m : Int) (w : World) (hd : fits .u64 d) (hc : fits .u64 c) (hw0 : fits .u64 w0) (hm : fits .u64 m) :
  Calls Tryz.prog 58 #[.int .u64 d, .int .u64 c, .int .u64 w0, .int .u64 m] w fun e w' => e = .returned (.tuple #[.bool (winsB d c w0 m), .int .i64 (winsE d w0 m)]) ∧ Ch [] w w' := by
 simp only [fits] at *
 refine calls_of (n := 32) (E := [(0, .int .u64 d), (1, .int .u64 c), (2, .int .u64 w0), (3, .int .u64 m)]) (W := Hp w [] []) Tryz.func58 rfl rfl (Nat.le_of_ble_eq_true rfl) rfl (Hp.nil _ _) ?_; refine jsr ?_; (iterate 2 refine jz ?_); refine jnt ?_; refine jc_seq ?_; refine jsr ?_; refine jz ?_; refine jpc (goes_func rfl) (fun w1 hw1 => dmay_any _ w1 (by simp only [fits] at *; omega)) ?_; refine jl_prop (fun h11 => ?_) (fun h11 => ?_)
 ·skip
  (iterate 4 refine jz ?_); refine jy (y_gtr rfl rfl) ?_; refine jl_prop (fun h16 => ?_) (fun h16 => ?_)
  ·first | (exfalso; omega) | (refine jy (y_pick_false rfl rfl) ?_; refine jz ?_; (iterate 3 refine jsk ?_); refine jy (y_pick_true rfl rfl) ?_; refine jnt ?_; refine jc_true rfl ?_; refine jsr ?_; (iterate 2 refine jz ?_); refine jnt ?_; refine jc_ret ?_; refine jq_then_ret ?_; refine jq_ret2 rfl rfl rfl ?_; exact fun _ hw => ⟨by first | (have f1 := @wins_pos d c w0 m (by omega); rw [f1.1, f1.2]; done) | (have f1 := @wins_neg d c w0 m (by omega); rw [f1.1, f1.2]; done), hw.ch⟩)
  ·first | (exfalso; omega) | (
    refine jy (y_pick_false rfl rfl) ?_; (iterate 3 refine jz ?_); refine jy (y_geq rfl rfl) ?_; refine jl_prop (fun h21 => ?_) (fun h21 => ?_)
    ·first | (exfalso; omega) | (refine jy (y_pick_false rfl rfl) ?_; refine jnt ?_; refine jc_true rfl ?_; refine jsr ?_; (iterate 2 refine jz ?_); refine jnt ?_; refine jc_ret ?_; refine jq_then_ret ?_; refine jq_ret2 rfl rfl rfl ?_; exact fun _ hw => ⟨by first | (have f1 := @wins_pos d c w0 m (by omega); rw [f1.1, f1.2]; done) | (have f1 := @wins_neg d c w0 m (by omega); rw [f1.1, f1.2]; done), hw.ch⟩)
    ·first | (exfalso; omega) | (
      refine jy (y_pick_false rfl rfl) ?_; refine jnt ?_; refine jc_false rfl ?_; refine jc_skip ?_; refine jq_then ?_; refine jc_seq ?_
      have hc0 := Int.emod_nonneg c (show m ≠ 0 by omega)
      have hc1 := Int.emod_lt_of_pos c (show 0 < m by omega)
      refine jc_region ?_; (iterate 3 refine jz ?_); refine jy (y_rem rfl rfl (by omega) (by omega)) ?_; refine jy (y_add_u64 rfl rfl) ?_; refine jl_as (u := .int .u64 (d + c % m)) (congrArg _ (by omega)) ?_; refine jz ?_; refine jy (y_rem rfl rfl (by omega) (by omega)) ?_; refine jz ?_; refine jy (y_lss rfl rfl) ?_; (iterate 2 refine jz ?_); refine jnt ?_; refine jc_ret ?_; refine jq_ret2 rfl rfl rfl ?_; exact fun _ hw => ⟨by first | (have f1 := @wins_pos d c w0 m (by omega); rw [f1.1, f1.2]; done) | (have f1 := @wins_neg d c w0 m (by omega); rw [f1.1, f1.2]; done), hw.ch⟩
      )
    )
 ·skip
  (iterate 2 refine jz ?_); (iterate 3 refine jsk ?_); refine jy (y_pick_true rfl rfl) ?_; refine jz ?_; (iterate 3 refine jsk ?_); refine jy (y_pick_true rfl rfl) ?_; refine jnt ?_; refine jc_true rfl ?_; refine jsr ?_; (iterate 2 refine jz ?_); refine jnt ?_; refine jc_ret ?_; refine jq_then_ret ?_; refine jq_ret2 rfl rfl rfl ?_; exact fun _ hw => ⟨by first | (have f1 := @wins_pos d c w0 m (by omega); rw [f1.1, f1.2]; done) | (have f1 := @wins_neg d c w0 m (by omega); rw [f1.1, f1.2]; done), hw.ch⟩

theorem nominal_any (f w0 m : Int) (w : World) (hf : fits .u64 f) (hw0 : fits .u64 w0) (hm : fits .u64 m) :
  Calls Tryz.prog 23 #[.int .u64 f, .int .u64 w0, .int .u64 m] w fun e w' => e = .returned (.tuple #[.int .u64 (nomV f w0 m), .int .i64 (nomE f w0 m)]) ∧ Ch [] w w' := by
 simp only [fits] at *
 refine calls_of (n := 33) (E := [(0, .int .u64 f), (1, .int .u64 w0), (2, .int .u64 m)]) (W := Hp w [] []) Tryz.func23 rfl rfl (Nat.le_of_ble_eq_true rfl) rfl (Hp.nil _ _) ?_; refine jsr ?_; (iterate 2 refine jz ?_); refine jnt ?_; refine jc_seq ?_; refine jsr ?_; refine jz ?_; refine jpc (goes_func rfl) (fun w1 hw1 => dmay_any _ w1 (by simp only [fits] at *; omega)) ?_; refine jl_prop (fun h11 => ?_) (fun h11 => ?_)
 ·skip
  (iterate 4 refine jz ?_); refine jy (y_gtr rfl rfl) ?_; refine jl_prop (fun h16 => ?_) (fun h16 => ?_)
  ·first | (exfalso; omega) | (refine jy (y_pick_false rfl rfl) ?_; refine jnt ?_; refine jc_true rfl ?_; refine jsr ?_; (iterate 2 refine jz ?_); refine jnt ?_; refine jc_ret ?_; refine jq_then_ret ?_; refine jq_ret2 rfl rfl rfl ?_; exact fun _ hw => ⟨by first | (have f1 := @nom_neg f w0 m (by omega); rw [f1.1, f1.2]; done) | (have f1 := @nom_odd f w0 m (by omega) (by omega); rw [f1.1, f1.2]; done) | (have f1 := @nom_pos f w0 m (by omega) (by omega); rw [f1.1, f1.2]; done), hw.ch⟩)
  ·first | (exfalso; omega) | (
    refine jy (y_pick_false rfl rfl) ?_; refine jnt ?_; refine jc_false rfl ?_; refine jc_skip ?_; refine jq_then ?_; iterate 2 refine jc_seq ?_
    have hrm := @rm_pos f w0 m (by omega)
    have hmd := @nom_md f w0 m (by omega) (by omega) (by omega)
    have hnn := Int.emod_nonneg (f * w0) (show m ≠ 0 by omega)
    refine jc_region ?_; (iterate 3 refine jz ?_); refine jpc (goes_func rfl) (fun w1 hw1 => rem_any _ _ _ w1 (by simp only [fits] at *; omega) (by simp only [fits] at *; omega) (by simp only [fits] at *; omega)) ?_; (iterate 2 refine jz ?_); refine jl_as (u := .int .u64 (f * w0 % m)) (congrArg _ hrm.1) ?_; (iterate 3 refine jz ?_); refine jnt ?_; refine jsr ?_; refine jz ?_; refine jy (y_gtr rfl rfl) ?_; refine jl_prop (fun h26 => ?_) (fun h26 => ?_)
    ·first | (exfalso; omega) | (refine jnt ?_; refine jc_true rfl ?_; refine jsr ?_; (iterate 2 refine jz ?_); refine jnt ?_; refine jc_ret ?_; refine jq_then_ret ?_; refine jq_ret2 rfl rfl rfl ?_; exact fun _ hw => ⟨by first | (have f1 := @nom_neg f w0 m (by omega); rw [f1.1, f1.2]; done) | (have f1 := @nom_odd f w0 m (by omega) (by omega); rw [f1.1, f1.2]; done) | (have f1 := @nom_pos f w0 m (by omega) (by omega); rw [f1.1, f1.2]; done), hw.ch⟩)
    ·first | (exfalso; omega) | (refine jnt ?_; refine jc_false rfl ?_; refine jc_skip ?_; refine jq_then ?_; refine jsr ?_; (iterate 3 refine jz ?_); refine jpc (goes_func rfl) (fun w1 hw1 => muldiv_any _ _ _ w1 (by simp only [fits] at *; omega) (by simp only [fits] at *; omega) (by simp only [fits] at *; omega)) ?_; refine jz ?_; refine jl_as (u := .int .u64 (f * w0 / m)) (congrArg _ hmd.1) ?_; refine jz ?_; refine jl_as (u := .int .i64 0) (congrArg _ hmd.2) ?_; (iterate 2 refine jz ?_); refine jnt ?_; refine jc_ret ?_; refine jq_ret2 rfl rfl rfl ?_; exact fun _ hw => ⟨by first | (have f1 := @nom_neg f w0 m (by omega); rw [f1.1, f1.2]; done) | (have f1 := @nom_odd f w0 m (by omega) (by omega); rw [f1.1, f1.2]; done) | (have f1 := @nom_pos f w0 m (by omega) (by omega); rw [f1.1, f1.2]; done), hw.ch⟩)
    )
 ·skip
  (iterate 2 refine jz ?_); (iterate 3 refine jsk ?_); refine jy (y_pick_true rfl rfl) ?_; refine jnt ?_; refine jc_true rfl ?_; refine jsr ?_; (iterate 2 refine jz ?_); refine jnt ?_; refine jc_ret ?_; refine jq_then_ret ?_; refine jq_ret2 rfl rfl rfl ?_; exact fun _ hw => ⟨by first | (have f1 := @nom_neg f w0 m (by omega); rw [f1.1, f1.2]; done) | (have f1 := @nom_odd f w0 m (by omega) (by omega); rw [f1.1, f1.2]; done) | (have f1 := @nom_pos f w0 m (by omega) (by omega); rw [f1.1, f1.2]; done), hw.ch⟩

theorem rnominal_any (f w0 m : Int) (w : World) (hf : fits .u64 f) (hw0 : fits .u64 w0) (hm : fits .u64 m) :
  Calls Tryz.prog 53 #[.int .u64 f, .int .u64 w0, .int .u64 m] w fun e w' => e = .returned (.tuple #[.int .u64 (nomV f w0 m), .int .i64 (nomE f w0 m)]) ∧ Ch [] w w' := by
 simp only [fits] at *
 refine calls_of (n := 33) (E := [(0, .int .u64 f), (1, .int .u64 w0), (2, .int .u64 m)]) (W := Hp w [] []) Tryz.func53 rfl rfl (Nat.le_of_ble_eq_true rfl) rfl (Hp.nil _ _) ?_; refine jsr ?_; (iterate 2 refine jz ?_); refine jnt ?_; refine jc_seq ?_; refine jsr ?_; refine jz ?_; refine jpc (goes_func rfl) (fun w1 hw1 => drmay_any _ w1 (by simp only [fits] at *; omega)) ?_; refine jl_prop (fun h11 => ?_) (fun h11 => ?_)
 ·skip
  (iterate 4 refine jz ?_); refine jy (y_gtr rfl rfl) ?_; refine jl_prop (fun h16 => ?_) (fun h16 => ?_)
  ·first | (exfalso; omega) | (refine jy (y_pick_false rfl rfl) ?_; refine jnt ?_; refine jc_true rfl ?_; refine jsr ?_; (iterate 2 refine jz ?_); refine jnt ?_; refine jc_ret ?_; refine jq_then_ret ?_; refine jq_ret2 rfl rfl rfl ?_; exact fun _ hw => ⟨by first | (have f1 := @nom_neg f w0 m (by omega); rw [f1.1, f1.2]; done) | (have f1 := @nom_odd f w0 m (by omega) (by omega); rw [f1.1, f1.2]; done) | (have f1 := @nom_pos f w0 m (by omega) (by omega); rw [f1.1, f1.2]; done), hw.ch⟩)
  ·first | (exfalso; omega) | (
    refine jy (y_pick_false rfl rfl) ?_; refine jnt ?_; refine jc_false rfl ?_; refine jc_skip ?_; refine jq_then ?_; refine jc_seq ?_
    have hrm := @rm_pos f w0 m (by omega)
    have hmd := @nom_md f w0 m (by omega) (by omega) (by omega)
    have hnn := Int.emod_nonneg (f * w0) (show m ≠ 0 by omega)
    refine jc_region ?_; (iterate 3 refine jz ?_); refine jpc (goes_func rfl) (fun w1 hw1 => rrem_any _ _ _ w1 (by simp only [fits] at *; omega) (by simp only [fits] at *; omega) (by simp only [fits] at *; omega)) ?_; (iterate 2 refine jz ?_); refine jl_as (u := .int .u64 (f * w0 % m)) (congrArg _ hrm.1) ?_; (iterate 3 refine jz ?_); refine jnt ?_; refine jc_seq ?_; refine jsr ?_; refine jz ?_; refine jy (y_gtr rfl rfl) ?_; refine jl_prop (fun h26 => ?_) (fun h26 => ?_)
    ·first | (exfalso; omega) | (refine jnt ?_; refine jc_true rfl ?_; refine jsr ?_; (iterate 2 refine jz ?_); refine jnt ?_; refine jc_ret ?_; refine jq_then_ret ?_; refine jq_ret2 rfl rfl rfl ?_; exact fun _ hw => ⟨by first | (have f1 := @nom_neg f w0 m (by omega); rw [f1.1, f1.2]; done) | (have f1 := @nom_odd f w0 m (by omega) (by omega); rw [f1.1, f1.2]; done) | (have f1 := @nom_pos f w0 m (by omega) (by omega); rw [f1.1, f1.2]; done), hw.ch⟩)
    ·first | (exfalso; omega) | (refine jnt ?_; refine jc_false rfl ?_; refine jc_skip ?_; refine jq_then ?_; refine jsr ?_; (iterate 3 refine jz ?_); refine jpc (goes_func rfl) (fun w1 hw1 => rmuldiv_any _ _ _ w1 (by simp only [fits] at *; omega) (by simp only [fits] at *; omega) (by simp only [fits] at *; omega)) ?_; refine jz ?_; refine jl_as (u := .int .u64 (f * w0 / m)) (congrArg _ hmd.1) ?_; refine jz ?_; refine jl_as (u := .int .i64 0) (congrArg _ hmd.2) ?_; (iterate 2 refine jz ?_); refine jnt ?_; refine jc_ret ?_; refine jq_ret2 rfl rfl rfl ?_; exact fun _ hw => ⟨by first | (have f1 := @nom_neg f w0 m (by omega); rw [f1.1, f1.2]; done) | (have f1 := @nom_odd f w0 m (by omega) (by omega); rw [f1.1, f1.2]; done) | (have f1 := @nom_pos f w0 m (by omega) (by omega); rw [f1.1, f1.2]; done), hw.ch⟩)
    )
 ·skip
  (iterate 2 refine jz ?_); (iterate 3 refine jsk ?_); refine jy (y_pick_true rfl rfl) ?_; refine jnt ?_; refine jc_true rfl ?_; refine jsr ?_; (iterate 2 refine jz ?_); refine jnt ?_; refine jc_ret ?_; refine jq_then_ret ?_; refine jq_ret2 rfl rfl rfl ?_; exact fun _ hw => ⟨by first | (have f1 := @nom_neg f w0 m (by omega); rw [f1.1, f1.2]; done) | (have f1 := @nom_odd f w0 m (by omega) (by omega); rw [f1.1, f1.2]; done) | (have f1 := @nom_pos f w0 m (by omega) (by omega); rw [f1.1, f1.2]; done), hw.ch⟩

theorem commit_any (salt : ByteArray) (n : Int) (w : World) (hs : salt.size ≤ 1000000) (hn : fits .u64 n) :
  Calls Tryz.prog 26 #[.string salt, .int .u64 n] w fun e w' => e = .returned (.string (commitS salt n)) ∧ Ch [] w w' := by
 refine calls_of (n := 10) (E := [(0, .string salt), (1, .int .u64 n)]) (W := Hp w [] []) Tryz.func26 rfl rfl (Nat.le_of_ble_eq_true rfl) rfl (Hp.nil _ _) ?_; refine jsr ?_; refine jz ?_; refine jnt ?_; refine jsr ?_; (iterate 2 refine jz ?_); refine jpc (goes_func rfl) (fun w1 hw1 => put_any _ w1 hn) ?_; refine jl_m rfl (by decide) rfl (m_buildSlice (by decide) (Built.cell rfl rfl rfl (by repeat constructor) (Built.cell rfl rfl rfl (by repeat constructor) Built.nil))) (fun b8 => ?_); refine jpc (goes_func rfl) (fun w1 hw1 => tag_any strDraw (some ⟨b8, 0, none⟩) 2 [salt, putS n] w1 (by decide) (by simp) (all2 (hs) (by rw [putS_size]; decide)) (Strs.of_row (hw1.get mem0))) ?_; refine jz ?_; refine jnt ?_; refine jc_ret ?_; refine jq_ret1 rfl rfl ?_; exact fun _ hw => ⟨rfl, hw.ch⟩

theorem rcommit_any (salt : ByteArray) (n : Int) (w : World) (hs : salt.size ≤ 1000000) (hn : fits .u64 n) :
  Calls Tryz.prog 56 #[.string salt, .int .u64 n] w fun e w' => e = .returned (.string (commitS salt n)) ∧ Ch [] w w' := by
 refine calls_of (n := 10) (E := [(0, .string salt), (1, .int .u64 n)]) (W := Hp w [] []) Tryz.func56 rfl rfl (Nat.le_of_ble_eq_true rfl) rfl (Hp.nil _ _) ?_; refine jsr ?_; refine jz ?_; refine jnt ?_; refine jsr ?_; (iterate 2 refine jz ?_); refine jpc (goes_func rfl) (fun w1 hw1 => rput_any _ w1 hn) ?_; refine jl_m rfl (by decide) rfl (m_buildSlice (by decide) (Built.cell rfl rfl rfl (by repeat constructor) (Built.cell rfl rfl rfl (by repeat constructor) Built.nil))) (fun b8 => ?_); refine jpc (goes_func rfl) (fun w1 hw1 => rtag_any strDraw (some ⟨b8, 0, none⟩) 2 [salt, putS n] w1 (by decide) (by simp) (all2 (hs) (by rw [putS_size]; decide)) (Strs.of_row (hw1.get mem0))) ?_; refine jz ?_; refine jnt ?_; refine jc_ret ?_; refine jq_ret1 rfl rfl ?_; exact fun _ hw => ⟨rfl, hw.ch⟩

theorem opens_any (c salt : ByteArray) (n : Int) (w : World) (hs : salt.size ≤ 1000000) (hn : fits .u64 n) :
  Calls Tryz.prog 76 #[.string c, .string salt, .int .u64 n] w fun e w' => e = .returned (.bool (decide (c = commitS salt n))) ∧ Ch [] w w' := by
 refine calls_of (n := 12) (E := [(0, .string c), (1, .string salt), (2, .int .u64 n)]) (W := Hp w [] []) Tryz.func76 rfl rfl (Nat.le_of_ble_eq_true rfl) rfl (Hp.nil _ _) ?_; refine jsr ?_; refine jz ?_; refine jnt ?_; refine jsr ?_; (iterate 3 refine jz ?_); refine jpc (goes_func rfl) (fun w1 hw1 => commit_any _ _ w1 hs hn) ?_; refine jy (y_seql rfl rfl) ?_; refine jz ?_; refine jnt ?_; refine jc_ret ?_; refine jq_ret1 rfl rfl ?_; exact fun _ hw => ⟨rfl, hw.ch⟩

theorem left64_any (m : Int) (w : World) (hm : fits .u64 m) (h1 : 1 ≤ m) :
  Calls Tryz.prog 99 #[.int .u64 m] w fun e w' => e = .returned (.tuple #[.bool true, .int .u64 (18446744073709551616 % m), .int .i64 0]) ∧ Ch [] w w' := by
 simp only [fits] at *
 have hrm := @rm_pos 4294967296 4294967296 m (by omega)
 refine calls_of (n := 14) (E := [(0, .int .u64 m)]) (W := Hp w [] []) Tryz.func99 rfl rfl (Nat.le_of_ble_eq_true rfl) rfl (Hp.nil _ _) ?_; refine jsr ?_; (iterate 3 refine jz ?_); refine jnt ?_; refine jsr ?_; refine jz ?_; refine jpc (goes_func rfl) (fun w1 hw1 => rrem_any _ _ _ w1 (by simp only [fits] at *; omega) (by simp only [fits] at *; omega) (by simp only [fits] at *; omega)) ?_; (iterate 2 refine jz ?_); refine jl_as (u := .int .u64 (18446744073709551616 % m)) (congrArg _ hrm.1) ?_; refine jz ?_; refine jl_as (u := .int .i64 0) (congrArg _ hrm.2) ?_; (iterate 2 refine jz ?_); refine jnt ?_; refine jsr ?_; (iterate 5 refine jz ?_); refine jnt ?_; refine jc_ret ?_; refine jq_ret3 rfl rfl rfl rfl ?_; exact fun _ hw => ⟨rfl, hw.ch⟩

theorem rtop5_any (m : Int) (w : World) (hm : fits .u64 m) :
  Calls Tryz.prog 83 #[.int .u64 m] w fun e w' => e = .returned (.tuple #[.int .u64 (topV m), .int .i64 (topE m)]) ∧ Ch [] w w' := by
 simp only [fits] at *
 refine calls_of (n := 20) (E := [(0, .int .u64 m)]) (W := Hp w [] []) Tryz.func83 rfl rfl (Nat.le_of_ble_eq_true rfl) rfl (Hp.nil _ _) ?_; refine jsr ?_; (iterate 2 refine jz ?_); refine jnt ?_; refine jc_seq ?_; refine jsr ?_; refine jz ?_; refine jpc (goes_func rfl) (fun w1 hw1 => drmay_any _ w1 (by simp only [fits] at *; omega)) ?_; refine jl_prop (fun h9 => ?_) (fun h9 => ?_)
 ·skip
  refine jz ?_; refine jnt ?_; refine jc_false rfl ?_; refine jc_skip ?_; refine jq_then ?_; refine jc_seq ?_
  have hm0 := Int.emod_nonneg 18446744073709551616 (show m ≠ 0 by omega)
  have hm1 := Int.emod_lt_of_pos 18446744073709551616 (show 0 < m by omega)
  refine jc_region ?_; refine jz ?_; refine jnt ?_; refine jsr ?_; refine jz ?_; refine jpc (goes_func rfl) (fun w1 hw1 => left64_any _ w1 (by simp only [fits] at *; omega) (by omega)) ?_; (iterate 7 refine jz ?_); refine jnt ?_; refine jsr ?_; (iterate 2 refine jz ?_); refine jy (ysf rfl rfl) ?_; (iterate 2 refine jz ?_); refine jnt ?_; refine jc_ret ?_; refine jq_ret2 rfl rfl rfl ?_; exact fun _ hw => ⟨by rw [topV_pos h9, topE_pos h9], hw.ch⟩
 ·skip
  refine jz ?_; refine jnt ?_; refine jc_true rfl ?_; refine jsr ?_; (iterate 2 refine jz ?_); refine jnt ?_; refine jc_ret ?_; refine jq_then_ret ?_; refine jq_ret2 rfl rfl rfl ?_; exact fun _ hw => ⟨by rw [topV_neg h9, topE_neg h9], hw.ch⟩

theorem rfair_any (raw m : Int) (w : World) (hr : fits .u64 raw) (hm : fits .u64 m) :
  Calls Tryz.prog 54 #[.int .u64 raw, .int .u64 m] w fun e w' => e = .returned (.tuple #[.int .u64 (fairV raw m), .int .i64 (fairE raw m)]) ∧ Ch [] w w' := by
 simp only [fits] at *
 have hE1 := @topE_pos m
 have hE2 := @topE_neg m
 refine calls_of (n := 26) (E := [(0, .int .u64 raw), (1, .int .u64 m)]) (W := Hp w [] []) Tryz.func54 rfl rfl (Nat.le_of_ble_eq_true rfl) rfl (Hp.nil _ _) ?_; refine jsr ?_; (iterate 2 refine jz ?_); refine jnt ?_; refine jsr ?_; refine jz ?_; refine jpc (goes_func rfl) (fun w1 hw1 => rtop5_any _ w1 (by simp only [fits] at *; omega)) ?_; (iterate 5 refine jz ?_); refine jnt ?_; refine jc_seq ?_; refine jsr ?_; refine jz ?_; refine jy (y_neq rfl rfl) ?_; refine jl_prop (fun h14 => ?_) (fun h14 => ?_)
 ·first | (exfalso; omega) | (refine jnt ?_; refine jc_true rfl ?_; refine jsr ?_; (iterate 3 refine jz ?_); refine jnt ?_; refine jc_ret ?_; refine jq_then_ret ?_; refine jq_ret2 rfl rfl rfl ?_; exact fun _ hw => ⟨by first | (have f1 := @fair_high raw m (by omega) (by omega); rw [f1.1, f1.2]; done) | (have f1 := @fair_pos raw m (by omega) (by omega); rw [f1.1, f1.2]; done) | (have f1 := @fair_neg raw m (by omega); rw [f1.1, f1.2]; exact congrArg (fun z => Ending.returned (.tuple #[.int .u64 0, .int .i64 z])) (by omega)), hw.ch⟩)
 ·first | (exfalso; omega) | (
   refine jnt ?_; refine jc_false rfl ?_; refine jc_skip ?_; refine jq_then ?_; iterate 2 refine jc_seq ?_
   have hmay : 1 ≤ m ∧ m ≤ 4294967296 := Decidable.byContradiction (fun h => by have := hE2 h; omega)
   refine jc_region ?_; (iterate 2 refine jz ?_); refine jy (y_gtr rfl rfl) ?_; refine jl_prop (fun h18 => ?_) (fun h18 => ?_)
   ·first | (exfalso; omega) | (refine jnt ?_; refine jc_true rfl ?_; refine jsr ?_; (iterate 2 refine jz ?_); refine jnt ?_; refine jc_ret ?_; refine jq_then_ret ?_; refine jq_ret2 rfl rfl rfl ?_; exact fun _ hw => ⟨by first | (have f1 := @fair_high raw m (by omega) (by omega); rw [f1.1, f1.2]; done) | (have f1 := @fair_pos raw m (by omega) (by omega); rw [f1.1, f1.2]; done) | (have f1 := @fair_neg raw m (by omega); rw [f1.1, f1.2]; exact congrArg (fun z => Ending.returned (.tuple #[.int .u64 0, .int .i64 z])) (by omega)), hw.ch⟩)
   ·first | (exfalso; omega) | (refine jnt ?_; refine jc_false rfl ?_; refine jc_skip ?_; refine jq_then ?_; refine jsr ?_; (iterate 3 refine jz ?_); refine jy (y_quo rfl rfl (by omega) (by omega) (by have h2 := Int.ediv_le_self (a := raw) m hr.1; have h3 := Int.ediv_nonneg hr.1 (show 0 ≤ m by omega); simp only [fits]; omega)) ?_; refine jz ?_; refine jy (y_mul_u64 rfl rfl) ?_; refine jy (y_sub_u64 rfl rfl) ?_; refine jl_as (congrArg _ (minus_div raw m (by omega) (by omega) (by omega))) ?_; (iterate 2 refine jz ?_); refine jnt ?_; refine jc_ret ?_; refine jq_ret2 rfl rfl rfl ?_; exact fun _ hw => ⟨by first | (have f1 := @fair_high raw m (by omega) (by omega); rw [f1.1, f1.2]; done) | (have f1 := @fair_pos raw m (by omega) (by omega); rw [f1.1, f1.2]; done) | (have f1 := @fair_neg raw m (by omega); rw [f1.1, f1.2]; exact congrArg (fun z => Ending.returned (.tuple #[.int .u64 0, .int .i64 z])) (by omega)), hw.ch⟩)
   )

theorem rwins_any (d c w0 m : Int) (w : World) (hd : fits .u64 d) (hc : fits .u64 c) (hw0 : fits .u64 w0) (hm : fits .u64 m) :
  Calls Tryz.prog 61 #[.int .u64 d, .int .u64 c, .int .u64 w0, .int .u64 m] w fun e w' => e = .returned (.tuple #[.bool (winsB d c w0 m), .int .i64 (winsE d w0 m)]) ∧ Ch [] w w' := by
 simp only [fits] at *
 refine calls_of (n := 44) (E := [(0, .int .u64 d), (1, .int .u64 c), (2, .int .u64 w0), (3, .int .u64 m)]) (W := Hp w [] []) Tryz.func61 rfl rfl (Nat.le_of_ble_eq_true rfl) rfl (Hp.nil _ _) ?_; refine jsr ?_; (iterate 2 refine jz ?_); refine jnt ?_; refine jc_seq ?_; refine jsr ?_; refine jz ?_; refine jpc (goes_func rfl) (fun w1 hw1 => drmay_any _ w1 (by simp only [fits] at *; omega)) ?_; refine jl_prop (fun h13 => ?_) (fun h13 => ?_)
 ·skip
  (iterate 4 refine jz ?_); refine jy (y_gtr rfl rfl) ?_; refine jl_prop (fun h18 => ?_) (fun h18 => ?_)
  ·first | (exfalso; omega) | (refine jy (y_pick_false rfl rfl) ?_; refine jz ?_; (iterate 3 refine jsk ?_); refine jy (y_pick_true rfl rfl) ?_; refine jnt ?_; refine jc_true rfl ?_; refine jsr ?_; (iterate 2 refine jz ?_); refine jnt ?_; refine jc_ret ?_; refine jq_then_ret ?_; refine jq_ret2 rfl rfl rfl ?_; exact fun _ hw => ⟨by first | (have f1 := @wins_pos d c w0 m (by omega); rw [f1.1, f1.2]; exact congrArg (fun z => Ending.returned (.tuple #[.bool z, .int .i64 0])) (by first | rw [hwm.1 (by omega)] | rw [hwm.2 (by omega)])) | (have f1 := @wins_neg d c w0 m (by omega); rw [f1.1, f1.2]; done), hw.ch⟩)
  ·first | (exfalso; omega) | (
    refine jy (y_pick_false rfl rfl) ?_; (iterate 3 refine jz ?_); refine jy (y_geq rfl rfl) ?_; refine jl_prop (fun h23 => ?_) (fun h23 => ?_)
    ·first | (exfalso; omega) | (refine jy (y_pick_false rfl rfl) ?_; refine jnt ?_; refine jc_true rfl ?_; refine jsr ?_; (iterate 2 refine jz ?_); refine jnt ?_; refine jc_ret ?_; refine jq_then_ret ?_; refine jq_ret2 rfl rfl rfl ?_; exact fun _ hw => ⟨by first | (have f1 := @wins_pos d c w0 m (by omega); rw [f1.1, f1.2]; exact congrArg (fun z => Ending.returned (.tuple #[.bool z, .int .i64 0])) (by first | rw [hwm.1 (by omega)] | rw [hwm.2 (by omega)])) | (have f1 := @wins_neg d c w0 m (by omega); rw [f1.1, f1.2]; done), hw.ch⟩)
    ·first | (exfalso; omega) | (
      refine jy (y_pick_false rfl rfl) ?_; refine jnt ?_; refine jc_false rfl ?_; refine jc_skip ?_; refine jq_then ?_; refine jc_seq ?_
      have hc0 := Int.emod_nonneg c (show m ≠ 0 by omega)
      have hc1 := Int.emod_lt_of_pos c (show 0 < m by omega)
      have hwm := @wrap_mod d (c % m) m (by omega) (by omega) hc0 hc1
      refine jc_region ?_; (iterate 3 refine jz ?_); refine jy (y_quo rfl rfl (by omega) (by omega) (by have h2 := Int.ediv_le_self (a := c) m hc.1; have h3 := Int.ediv_nonneg hc.1 (show 0 ≤ m by omega); simp only [fits]; omega)) ?_; refine jz ?_; refine jy (y_mul_u64 rfl rfl) ?_; refine jy (y_sub_u64 rfl rfl) ?_; refine jl_as (congrArg _ (minus_div c m (by omega) (by omega) (by omega))) ?_; refine jz ?_; refine jnt ?_; refine jsr ?_; (iterate 2 refine jz ?_); refine jy (yaf rfl rfl) ?_; refine jz ?_; refine jnt ?_; refine jc_seq ?_; refine jsr ?_; (iterate 2 refine jz ?_); refine jy (y_geq rfl rfl) ?_; refine jl_prop (fun h37 => ?_) (fun h37 => ?_)
      ·first | (exfalso; omega) | (
        refine jnt ?_; refine jc_true rfl ?_; refine jc_region ?_; (iterate 2 refine jz ?_); refine jy (ysf rfl rfl) ?_; refine jz ?_; refine jnt ?_; refine jc_seq ?_
        have hfin : (d + c % m) % m = d + c % m ∨ (d + c % m) % m = d + c % m - m := by omega
        refine jc_region ?_; (iterate 2 refine jz ?_); refine jy (y_lss rfl rfl) ?_; (iterate 2 refine jz ?_); refine jnt ?_; refine jc_ret ?_; refine jq_ret2 rfl rfl rfl ?_; exact fun _ hw => ⟨by first | (have f1 := @wins_pos d c w0 m (by omega); rw [f1.1, f1.2]; exact congrArg (fun z => Ending.returned (.tuple #[.bool z, .int .i64 0])) (by first | rw [hwm.1 (by omega)] | rw [hwm.2 (by omega)])) | (have f1 := @wins_neg d c w0 m (by omega); rw [f1.1, f1.2]; done), hw.ch⟩
        )
      ·first | (exfalso; omega) | (
        refine jnt ?_; refine jc_false rfl ?_; refine jc_skip ?_; refine jq_then ?_; refine jc_seq ?_
        have hfin : (d + c % m) % m = d + c % m ∨ (d + c % m) % m = d + c % m - m := by omega
        refine jc_region ?_; (iterate 2 refine jz ?_); refine jy (y_lss rfl rfl) ?_; (iterate 2 refine jz ?_); refine jnt ?_; refine jc_ret ?_; refine jq_ret2 rfl rfl rfl ?_; exact fun _ hw => ⟨by first | (have f1 := @wins_pos d c w0 m (by omega); rw [f1.1, f1.2]; exact congrArg (fun z => Ending.returned (.tuple #[.bool z, .int .i64 0])) (by first | rw [hwm.1 (by omega)] | rw [hwm.2 (by omega)])) | (have f1 := @wins_neg d c w0 m (by omega); rw [f1.1, f1.2]; done), hw.ch⟩
        )
      )
    )
 ·skip
  (iterate 2 refine jz ?_); (iterate 3 refine jsk ?_); refine jy (y_pick_true rfl rfl) ?_; refine jz ?_; (iterate 3 refine jsk ?_); refine jy (y_pick_true rfl rfl) ?_; refine jnt ?_; refine jc_true rfl ?_; refine jsr ?_; (iterate 2 refine jz ?_); refine jnt ?_; refine jc_ret ?_; refine jq_then_ret ?_; refine jq_ret2 rfl rfl rfl ?_; exact fun _ hw => ⟨by first | (have f1 := @wins_pos d c w0 m (by omega); rw [f1.1, f1.2]; exact congrArg (fun z => Ending.returned (.tuple #[.bool z, .int .i64 0])) (by first | rw [hwm.1 (by omega)] | rw [hwm.2 (by omega)])) | (have f1 := @wins_neg d c w0 m (by omega); rw [f1.1, f1.2]; done), hw.ch⟩

end Go.Proofs.YtghomncegjamfaaGreat