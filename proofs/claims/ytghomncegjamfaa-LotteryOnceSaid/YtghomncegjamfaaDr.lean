/- The walks of packages draw and turnstileref05. Written by program (walk.py) out of a table of contracts and invariants. -/
import Derived.Test.YtghomncegjamfaaMdraw
import Derived.Test.YtghomncegjamfaaNu
namespace Go.Proofs.Ytghomncegjamfaa
open Go.RowKit
set_option maxRecDepth 100000
set_option linter.unusedVariables false
set_option linter.unusedSimpArgs false
attribute [local irreducible] Yields Makes Writes

theorem dmay_any (m : Int) (w : World) (hm : fits .u64 m) :
  Calls Try.prog 57 #[.int .u64 m] w fun e w' => e = .returned (.bool (decide (1 ≤ m ∧ m ≤ 4294967296))) ∧ Ch [] w w' := by
 simp only [fits] at *
 refine calls_of (n := 9) (E := [(0, .int .u64 m)]) (W := Hp w [] []) Try.func57 rfl rfl (Nat.le_of_ble_eq_true rfl) rfl (Hp.nil _ _) ?_
 refine jsr ?_
 refine jz ?_
 refine jnt ?_
 refine jsr ?_
 refine jz ?_
 refine jy (y_geq rfl rfl) ?_
 refine jl_prop (fun h4 => ?_) (fun h4 => ?_)
 ·first
  | (exfalso; omega)
  | (
   refine jz ?_
   refine jz ?_
   refine jy (y_leq rfl rfl) ?_
   refine jy (y_pick_true rfl rfl) ?_
   refine jz ?_
   refine jnt ?_
   refine jc_ret ?_
   refine jq_ret1 rfl rfl ?_
   exact fun _ hw => ⟨congrArg (fun z => Ending.returned (Value.bool z)) (by first | exact (decide_eq_true (by omega)).symm | exact (decide_eq_false (by omega)).symm | (rw [decide_eq_decide]; omega)), hw.ch⟩
   )
 ·first
  | (exfalso; omega)
  | (
   refine jz ?_
   refine jsk ?_
   refine jsk ?_
   refine jy (y_pick_false rfl rfl) ?_
   refine jz ?_
   refine jnt ?_
   refine jc_ret ?_
   refine jq_ret1 rfl rfl ?_
   exact fun _ hw => ⟨congrArg (fun z => Ending.returned (Value.bool z)) (by first | exact (decide_eq_true (by omega)).symm | exact (decide_eq_false (by omega)).symm | (rw [decide_eq_decide]; omega)), hw.ch⟩
   )

theorem top_any (m : Int) (w : World) (hm : fits .u64 m) :
  Calls Try.prog 60 #[.int .u64 m] w fun e w' => e = .returned (.tuple #[.int .u64 (topV m), .int .i64 (topE m)]) ∧ Ch [] w w' := by
 simp only [fits] at *
 refine calls_of (n := 13) (E := [(0, .int .u64 m)]) (W := Hp w [] []) Try.func60 rfl rfl (Nat.le_of_ble_eq_true rfl) rfl (Hp.nil _ _) ?_
 refine jsr ?_
 refine jz ?_
 refine jz ?_
 refine jnt ?_
 refine jc_seq ?_
 refine jsr ?_
 refine jz ?_
 refine jpc (goes_func rfl) (fun w1 hw1 => dmay_any _ w1 (by simp only [fits] at *; omega)) ?_
 refine jl_prop (fun h5 => ?_) (fun h5 => ?_)
 ·skip
  refine jz ?_
  refine jnt ?_
  refine jc_false rfl ?_
  refine jc_skip ?_
  refine jq_then ?_
  refine jsr ?_
  refine jz ?_
  refine jy (y_rem rfl rfl (by omega) (by omega)) ?_
  refine jy (y_add_u64 rfl rfl) ?_
  refine jz ?_
  refine jy (y_rem rfl rfl (by omega) (by omega)) ?_
  refine jy (y_sub_u64 rfl rfl) ?_
  refine jl_as (congrArg _ (top_eq m h5)) ?_
  refine jz ?_
  refine jz ?_
  refine jnt ?_
  refine jc_ret ?_
  refine jq_ret2 rfl rfl rfl ?_
  exact fun _ hw => ⟨by rw [topV_pos h5, topE_pos h5], hw.ch⟩
 ·skip
  refine jz ?_
  refine jnt ?_
  refine jc_true rfl ?_
  refine jsr ?_
  refine jz ?_
  refine jz ?_
  refine jnt ?_
  refine jc_ret ?_
  refine jq_then_ret ?_
  refine jq_ret2 rfl rfl rfl ?_
  exact fun _ hw => ⟨by rw [topV_neg h5, topE_neg h5], hw.ch⟩

theorem fair_any (raw m : Int) (w : World) (hr : fits .u64 raw) (hm : fits .u64 m) :
  Calls Try.prog 31 #[.int .u64 raw, .int .u64 m] w fun e w' => e = .returned (.tuple #[.int .u64 (fairV raw m), .int .i64 (fairE raw m)]) ∧ Ch [] w w' := by
 simp only [fits] at *
 have hE1 := @topE_pos m
 have hE2 := @topE_neg m
 refine calls_of (n := 27) (E := [(0, .int .u64 raw), (1, .int .u64 m)]) (W := Hp w [] []) Try.func31 rfl rfl (Nat.le_of_ble_eq_true rfl) rfl (Hp.nil _ _) ?_
 refine jsr ?_
 refine jz ?_
 refine jz ?_
 refine jnt ?_
 refine jsr ?_
 refine jz ?_
 refine jpc (goes_func rfl) (fun w1 hw1 => top_any _ w1 (by simp only [fits] at *; omega)) ?_
 refine jz ?_
 refine jz ?_
 refine jz ?_
 refine jz ?_
 refine jz ?_
 refine jnt ?_
 refine jc_seq ?_
 refine jc_block ?_
 refine jc_seq ?_
 refine jc_block ?_
 refine jc_seq ?_
 refine jc_block ?_
 refine jc_seq ?_
 refine jc_seq ?_
 refine jsr ?_
 refine jz ?_
 refine jy (y_eql rfl rfl) ?_
 refine jl_prop (fun h14 => ?_) (fun h14 => ?_)
 ·first
  | (exfalso; omega)
  | (
   refine jz ?_
   refine jz ?_
   refine jz ?_
   refine jy (y_gtr rfl rfl) ?_
   refine jl_prop (fun h18 => ?_) (fun h18 => ?_)
   ·first
    | (exfalso; omega)
    | (
     refine jy (y_pick_true rfl rfl) ?_
     refine jz ?_
     refine jnt ?_
     refine jc_true rfl ?_
     refine jc_exit ?_
     refine jq_then_exit ?_
     refine jq_then_exit ?_
     refine jq_hit ?_
     refine jq_then ?_
     refine jc_region ?_
     refine jz ?_
     refine jl_nil ?_
     refine jq_block ?_
     refine jq_then ?_
     refine jc_seq ?_
     refine jsr ?_
     refine jz ?_
     refine jz ?_
     refine jz ?_
     refine jnt ?_
     refine jc_ret ?_
     refine jq_then_ret ?_
     refine jq_block_ret ?_
     refine jq_then_ret ?_
     refine jq_ret2 rfl rfl rfl ?_
     exact fun _ hw => ⟨by first | (have f1 := @fair_high raw m (by omega) (by omega); rw [f1.1, f1.2]; done) | (have f1 := @fair_pos raw m (by omega) (by omega); rw [f1.1, f1.2]; done) | (have f1 := @fair_neg raw m (by omega); rw [f1.1, f1.2]; exact congrArg (fun z => Ending.returned (.tuple #[.int .u64 0, .int .i64 z])) (by omega)), hw.ch⟩
     )
   ·first
    | (exfalso; omega)
    | (
     refine jy (y_pick_true rfl rfl) ?_
     refine jz ?_
     refine jnt ?_
     refine jc_false rfl ?_
     refine jc_skip ?_
     refine jq_then ?_
     refine jsr ?_
     refine jz ?_
     refine jy (y_neq rfl rfl) ?_
     refine jl_prop (fun h22 => ?_) (fun h22 => ?_)
     ·first
      | (exfalso; omega)
      | (
       refine jz ?_
       refine jnt ?_
       refine jc_true rfl ?_
       refine jc_exit ?_
       refine jq_then_exit ?_
       refine jq_miss rfl ?_
       refine jq_then_exit ?_
       refine jq_hit ?_
       refine jq_then ?_
       refine jc_seq ?_
       refine jsr ?_
       refine jz ?_
       refine jz ?_
       refine jz ?_
       refine jnt ?_
       refine jc_ret ?_
       refine jq_then_ret ?_
       refine jq_block_ret ?_
       refine jq_then_ret ?_
       refine jq_ret2 rfl rfl rfl ?_
       exact fun _ hw => ⟨by first | (have f1 := @fair_high raw m (by omega) (by omega); rw [f1.1, f1.2]; done) | (have f1 := @fair_pos raw m (by omega) (by omega); rw [f1.1, f1.2]; done) | (have f1 := @fair_neg raw m (by omega); rw [f1.1, f1.2]; exact congrArg (fun z => Ending.returned (.tuple #[.int .u64 0, .int .i64 z])) (by omega)), hw.ch⟩
       )
     ·first
      | (exfalso; omega)
      | (
       refine jz ?_
       refine jnt ?_
       refine jc_false rfl ?_
       refine jc_skip ?_
       refine jq_then ?_
       refine jc_exit ?_
       refine jq_miss rfl ?_
       refine jq_then_exit ?_
       refine jq_miss rfl ?_
       refine jq_then_exit ?_
       refine jq_hit ?_
       refine jq_then ?_
       refine jsr ?_
       refine jz ?_
       refine jz ?_
       refine jy (y_rem rfl rfl (by omega) (by omega)) ?_
       refine jz ?_
       refine jz ?_
       refine jnt ?_
       refine jc_ret ?_
       refine jq_ret2 rfl rfl rfl ?_
       exact fun _ hw => ⟨by first | (have f1 := @fair_high raw m (by omega) (by omega); rw [f1.1, f1.2]; done) | (have f1 := @fair_pos raw m (by omega) (by omega); rw [f1.1, f1.2]; done) | (have f1 := @fair_neg raw m (by omega); rw [f1.1, f1.2]; exact congrArg (fun z => Ending.returned (.tuple #[.int .u64 0, .int .i64 z])) (by omega)), hw.ch⟩
       )
     )
   )
 ·first
  | (exfalso; omega)
  | (
   refine jz ?_
   refine jsk ?_
   refine jsk ?_
   refine jsk ?_
   refine jy (y_pick_false rfl rfl) ?_
   refine jz ?_
   refine jnt ?_
   refine jc_false rfl ?_
   refine jc_skip ?_
   refine jq_then ?_
   refine jsr ?_
   refine jz ?_
   refine jy (y_neq rfl rfl) ?_
   refine jl_prop (fun h22 => ?_) (fun h22 => ?_)
   ·first
    | (exfalso; omega)
    | (
     refine jz ?_
     refine jnt ?_
     refine jc_true rfl ?_
     refine jc_exit ?_
     refine jq_then_exit ?_
     refine jq_miss rfl ?_
     refine jq_then_exit ?_
     refine jq_hit ?_
     refine jq_then ?_
     refine jc_seq ?_
     refine jsr ?_
     refine jz ?_
     refine jz ?_
     refine jz ?_
     refine jnt ?_
     refine jc_ret ?_
     refine jq_then_ret ?_
     refine jq_block_ret ?_
     refine jq_then_ret ?_
     refine jq_ret2 rfl rfl rfl ?_
     exact fun _ hw => ⟨by first | (have f1 := @fair_high raw m (by omega) (by omega); rw [f1.1, f1.2]; done) | (have f1 := @fair_pos raw m (by omega) (by omega); rw [f1.1, f1.2]; done) | (have f1 := @fair_neg raw m (by omega); rw [f1.1, f1.2]; exact congrArg (fun z => Ending.returned (.tuple #[.int .u64 0, .int .i64 z])) (by omega)), hw.ch⟩
     )
   ·first
    | (exfalso; omega)
    | (
     refine jz ?_
     refine jnt ?_
     refine jc_false rfl ?_
     refine jc_skip ?_
     refine jq_then ?_
     refine jc_exit ?_
     refine jq_miss rfl ?_
     refine jq_then_exit ?_
     refine jq_miss rfl ?_
     refine jq_then_exit ?_
     refine jq_hit ?_
     refine jq_then ?_
     refine jsr ?_
     refine jz ?_
     refine jz ?_
     refine jy (y_rem rfl rfl (by omega) (by omega)) ?_
     refine jz ?_
     refine jz ?_
     refine jnt ?_
     refine jc_ret ?_
     refine jq_ret2 rfl rfl rfl ?_
     exact fun _ hw => ⟨by first | (have f1 := @fair_high raw m (by omega) (by omega); rw [f1.1, f1.2]; done) | (have f1 := @fair_pos raw m (by omega) (by omega); rw [f1.1, f1.2]; done) | (have f1 := @fair_neg raw m (by omega); rw [f1.1, f1.2]; exact congrArg (fun z => Ending.returned (.tuple #[.int .u64 0, .int .i64 z])) (by omega)), hw.ch⟩
     )
   )

theorem wins_any (d c w0 m : Int) (w : World) (hd : fits .u64 d) (hc : fits .u64 c) (hw0 : fits .u64 w0) (hm : fits .u64 m) :
  Calls Try.prog 46 #[.int .u64 d, .int .u64 c, .int .u64 w0, .int .u64 m] w fun e w' => e = .returned (.tuple #[.bool (winsB d c w0 m), .int .i64 (winsE d w0 m)]) ∧ Ch [] w w' := by
 simp only [fits] at *
 refine calls_of (n := 32) (E := [(0, .int .u64 d), (1, .int .u64 c), (2, .int .u64 w0), (3, .int .u64 m)]) (W := Hp w [] []) Try.func46 rfl rfl (Nat.le_of_ble_eq_true rfl) rfl (Hp.nil _ _) ?_
 refine jsr ?_
 refine jz ?_
 refine jz ?_
 refine jnt ?_
 refine jc_seq ?_
 refine jsr ?_
 refine jz ?_
 refine jpc (goes_func rfl) (fun w1 hw1 => dmay_any _ w1 (by simp only [fits] at *; omega)) ?_
 refine jl_prop (fun h11 => ?_) (fun h11 => ?_)
 ·skip
  refine jz ?_
  refine jz ?_
  refine jz ?_
  refine jz ?_
  refine jy (y_gtr rfl rfl) ?_
  refine jl_prop (fun h16 => ?_) (fun h16 => ?_)
  ·first
   | (exfalso; omega)
   | (
    refine jy (y_pick_false rfl rfl) ?_
    refine jz ?_
    refine jsk ?_
    refine jsk ?_
    refine jsk ?_
    refine jy (y_pick_true rfl rfl) ?_
    refine jnt ?_
    refine jc_true rfl ?_
    refine jsr ?_
    refine jz ?_
    refine jz ?_
    refine jnt ?_
    refine jc_ret ?_
    refine jq_then_ret ?_
    refine jq_ret2 rfl rfl rfl ?_
    exact fun _ hw => ⟨by first | (have f1 := @wins_pos d c w0 m (by omega); rw [f1.1, f1.2]; done) | (have f1 := @wins_neg d c w0 m (by omega); rw [f1.1, f1.2]; done), hw.ch⟩
    )
  ·first
   | (exfalso; omega)
   | (
    refine jy (y_pick_false rfl rfl) ?_
    refine jz ?_
    refine jz ?_
    refine jz ?_
    refine jy (y_geq rfl rfl) ?_
    refine jl_prop (fun h21 => ?_) (fun h21 => ?_)
    ·first
     | (exfalso; omega)
     | (
      refine jy (y_pick_false rfl rfl) ?_
      refine jnt ?_
      refine jc_true rfl ?_
      refine jsr ?_
      refine jz ?_
      refine jz ?_
      refine jnt ?_
      refine jc_ret ?_
      refine jq_then_ret ?_
      refine jq_ret2 rfl rfl rfl ?_
      exact fun _ hw => ⟨by first | (have f1 := @wins_pos d c w0 m (by omega); rw [f1.1, f1.2]; done) | (have f1 := @wins_neg d c w0 m (by omega); rw [f1.1, f1.2]; done), hw.ch⟩
      )
    ·first
     | (exfalso; omega)
     | (
      refine jy (y_pick_false rfl rfl) ?_
      refine jnt ?_
      refine jc_false rfl ?_
      refine jc_skip ?_
      refine jq_then ?_
      refine jc_seq ?_
      have hc0 := Int.emod_nonneg c (show m ≠ 0 by omega)
      have hc1 := Int.emod_lt_of_pos c (show 0 < m by omega)
      refine jc_region ?_
      refine jz ?_
      refine jz ?_
      refine jz ?_
      refine jy (y_rem rfl rfl (by omega) (by omega)) ?_
      refine jy (y_add_u64 rfl rfl) ?_
      refine jl_as (u := .int .u64 (d + c % m)) (congrArg _ (by omega)) ?_
      refine jz ?_
      refine jy (y_rem rfl rfl (by omega) (by omega)) ?_
      refine jz ?_
      refine jy (y_lss rfl rfl) ?_
      refine jz ?_
      refine jz ?_
      refine jnt ?_
      refine jc_ret ?_
      refine jq_ret2 rfl rfl rfl ?_
      exact fun _ hw => ⟨by first | (have f1 := @wins_pos d c w0 m (by omega); rw [f1.1, f1.2]; done) | (have f1 := @wins_neg d c w0 m (by omega); rw [f1.1, f1.2]; done), hw.ch⟩
      )
    )
 ·skip
  refine jz ?_
  refine jz ?_
  refine jsk ?_
  refine jsk ?_
  refine jsk ?_
  refine jy (y_pick_true rfl rfl) ?_
  refine jz ?_
  refine jsk ?_
  refine jsk ?_
  refine jsk ?_
  refine jy (y_pick_true rfl rfl) ?_
  refine jnt ?_
  refine jc_true rfl ?_
  refine jsr ?_
  refine jz ?_
  refine jz ?_
  refine jnt ?_
  refine jc_ret ?_
  refine jq_then_ret ?_
  refine jq_ret2 rfl rfl rfl ?_
  exact fun _ hw => ⟨by first | (have f1 := @wins_pos d c w0 m (by omega); rw [f1.1, f1.2]; done) | (have f1 := @wins_neg d c w0 m (by omega); rw [f1.1, f1.2]; done), hw.ch⟩

theorem nominal_any (f w0 m : Int) (w : World) (hf : fits .u64 f) (hw0 : fits .u64 w0) (hm : fits .u64 m) :
  Calls Try.prog 30 #[.int .u64 f, .int .u64 w0, .int .u64 m] w fun e w' => e = .returned (.tuple #[.int .u64 (nomV f w0 m), .int .i64 (nomE f w0 m)]) ∧ Ch [] w w' := by
 simp only [fits] at *
 refine calls_of (n := 33) (E := [(0, .int .u64 f), (1, .int .u64 w0), (2, .int .u64 m)]) (W := Hp w [] []) Try.func30 rfl rfl (Nat.le_of_ble_eq_true rfl) rfl (Hp.nil _ _) ?_
 refine jsr ?_
 refine jz ?_
 refine jz ?_
 refine jnt ?_
 refine jc_seq ?_
 refine jsr ?_
 refine jz ?_
 refine jpc (goes_func rfl) (fun w1 hw1 => dmay_any _ w1 (by simp only [fits] at *; omega)) ?_
 refine jl_prop (fun h11 => ?_) (fun h11 => ?_)
 ·skip
  refine jz ?_
  refine jz ?_
  refine jz ?_
  refine jz ?_
  refine jy (y_gtr rfl rfl) ?_
  refine jl_prop (fun h16 => ?_) (fun h16 => ?_)
  ·first
   | (exfalso; omega)
   | (
    refine jy (y_pick_false rfl rfl) ?_
    refine jnt ?_
    refine jc_true rfl ?_
    refine jsr ?_
    refine jz ?_
    refine jz ?_
    refine jnt ?_
    refine jc_ret ?_
    refine jq_then_ret ?_
    refine jq_ret2 rfl rfl rfl ?_
    exact fun _ hw => ⟨by first | (have f1 := @nom_neg f w0 m (by omega); rw [f1.1, f1.2]; done) | (have f1 := @nom_odd f w0 m (by omega) (by omega); rw [f1.1, f1.2]; done) | (have f1 := @nom_pos f w0 m (by omega) (by omega); rw [f1.1, f1.2]; done), hw.ch⟩
    )
  ·first
   | (exfalso; omega)
   | (
    refine jy (y_pick_false rfl rfl) ?_
    refine jnt ?_
    refine jc_false rfl ?_
    refine jc_skip ?_
    refine jq_then ?_
    refine jc_seq ?_
    refine jc_seq ?_
    have hrm := @rm_pos f w0 m (by omega)
    have hmd := @nom_md f w0 m (by omega) (by omega) (by omega)
    have hnn := Int.emod_nonneg (f * w0) (show m ≠ 0 by omega)
    refine jc_region ?_
    refine jz ?_
    refine jz ?_
    refine jz ?_
    refine jpc (goes_func rfl) (fun w1 hw1 => rem_any _ _ _ w1 (by simp only [fits] at *; omega) (by simp only [fits] at *; omega) (by simp only [fits] at *; omega)) ?_
    refine jz ?_
    refine jz ?_
    refine jl_as (u := .int .u64 (f * w0 % m)) (congrArg _ hrm.1) ?_
    refine jz ?_
    refine jz ?_
    refine jz ?_
    refine jnt ?_
    refine jsr ?_
    refine jz ?_
    refine jy (y_gtr rfl rfl) ?_
    refine jl_prop (fun h26 => ?_) (fun h26 => ?_)
    ·first
     | (exfalso; omega)
     | (
      refine jnt ?_
      refine jc_true rfl ?_
      refine jsr ?_
      refine jz ?_
      refine jz ?_
      refine jnt ?_
      refine jc_ret ?_
      refine jq_then_ret ?_
      refine jq_ret2 rfl rfl rfl ?_
      exact fun _ hw => ⟨by first | (have f1 := @nom_neg f w0 m (by omega); rw [f1.1, f1.2]; done) | (have f1 := @nom_odd f w0 m (by omega) (by omega); rw [f1.1, f1.2]; done) | (have f1 := @nom_pos f w0 m (by omega) (by omega); rw [f1.1, f1.2]; done), hw.ch⟩
      )
    ·first
     | (exfalso; omega)
     | (
      refine jnt ?_
      refine jc_false rfl ?_
      refine jc_skip ?_
      refine jq_then ?_
      refine jsr ?_
      refine jz ?_
      refine jz ?_
      refine jz ?_
      refine jpc (goes_func rfl) (fun w1 hw1 => muldiv_any _ _ _ w1 (by simp only [fits] at *; omega) (by simp only [fits] at *; omega) (by simp only [fits] at *; omega)) ?_
      refine jz ?_
      refine jl_as (u := .int .u64 (f * w0 / m)) (congrArg _ hmd.1) ?_
      refine jz ?_
      refine jl_as (u := .int .i64 0) (congrArg _ hmd.2) ?_
      refine jz ?_
      refine jz ?_
      refine jnt ?_
      refine jc_ret ?_
      refine jq_ret2 rfl rfl rfl ?_
      exact fun _ hw => ⟨by first | (have f1 := @nom_neg f w0 m (by omega); rw [f1.1, f1.2]; done) | (have f1 := @nom_odd f w0 m (by omega) (by omega); rw [f1.1, f1.2]; done) | (have f1 := @nom_pos f w0 m (by omega) (by omega); rw [f1.1, f1.2]; done), hw.ch⟩
      )
    )
 ·skip
  refine jz ?_
  refine jz ?_
  refine jsk ?_
  refine jsk ?_
  refine jsk ?_
  refine jy (y_pick_true rfl rfl) ?_
  refine jnt ?_
  refine jc_true rfl ?_
  refine jsr ?_
  refine jz ?_
  refine jz ?_
  refine jnt ?_
  refine jc_ret ?_
  refine jq_then_ret ?_
  refine jq_ret2 rfl rfl rfl ?_
  exact fun _ hw => ⟨by first | (have f1 := @nom_neg f w0 m (by omega); rw [f1.1, f1.2]; done) | (have f1 := @nom_odd f w0 m (by omega) (by omega); rw [f1.1, f1.2]; done) | (have f1 := @nom_pos f w0 m (by omega) (by omega); rw [f1.1, f1.2]; done), hw.ch⟩

theorem commit_any (salt : ByteArray) (n : Int) (w : World) (hs : salt.size ≤ 1000000) (hn : fits .u64 n) :
  Calls Try.prog 33 #[.string salt, .int .u64 n] w fun e w' => e = .returned (.string (commitS salt n)) ∧ Ch [] w w' := by
 refine calls_of (n := 10) (E := [(0, .string salt), (1, .int .u64 n)]) (W := Hp w [] []) Try.func33 rfl rfl (Nat.le_of_ble_eq_true rfl) rfl (Hp.nil _ _) ?_
 refine jsr ?_
 refine jz ?_
 refine jnt ?_
 refine jsr ?_
 refine jz ?_
 refine jz ?_
 refine jpc (goes_func rfl) (fun w1 hw1 => put_any _ w1 hn) ?_
 refine jl_m rfl (by decide) rfl (m_buildSlice (by decide) (Built.cell rfl rfl rfl (by repeat constructor) (Built.cell rfl rfl rfl (by repeat constructor) Built.nil))) (fun b8 => ?_)
 refine jpc (goes_func rfl) (fun w1 hw1 => tag_any strDraw (some ⟨b8, 0, none⟩) 2 [salt, putS n] w1 (by decide) (by simp) (all2 (hs) (by rw [putS_size]; decide)) (Strs.of_row (hw1.get mem0))) ?_
 refine jz ?_
 refine jnt ?_
 refine jc_ret ?_
 refine jq_ret1 rfl rfl ?_
 exact fun _ hw => ⟨rfl, hw.ch⟩

theorem opens_any (c salt : ByteArray) (n : Int) (w : World) (hs : salt.size ≤ 1000000) (hn : fits .u64 n) :
  Calls Try.prog 69 #[.string c, .string salt, .int .u64 n] w fun e w' => e = .returned (.bool (decide (c = commitS salt n))) ∧ Ch [] w w' := by
 refine calls_of (n := 12) (E := [(0, .string c), (1, .string salt), (2, .int .u64 n)]) (W := Hp w [] []) Try.func69 rfl rfl (Nat.le_of_ble_eq_true rfl) rfl (Hp.nil _ _) ?_
 refine jsr ?_
 refine jz ?_
 refine jnt ?_
 refine jsr ?_
 refine jz ?_
 refine jz ?_
 refine jz ?_
 refine jpc (goes_func rfl) (fun w1 hw1 => commit_any _ _ w1 hs hn) ?_
 refine jy (y_seql rfl rfl) ?_
 refine jz ?_
 refine jnt ?_
 refine jc_ret ?_
 refine jq_ret1 rfl rfl ?_
 exact fun _ hw => ⟨rfl, hw.ch⟩

end Go.Proofs.Ytghomncegjamfaa