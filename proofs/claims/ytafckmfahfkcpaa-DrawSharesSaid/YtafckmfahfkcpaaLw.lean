/- The walks of the laws of layer 5. Written by program (walk.py) out of a table of contracts and invariants. -/
import Derived.Test.YtafckmfahfkcpaaDr
import Derived.Test.YtafckmfahfkcpaaLb
namespace Go.Proofs.Ytafckmfahfkcpaa
open Go.RowKit
set_option maxRecDepth 100000
set_option linter.unusedVariables false
set_option linter.unusedSimpArgs false
def sSalt : ByteArray := ⟨#[115, 97, 108, 116]⟩

theorem fixed5_any (w : World) :
    Calls Try.prog 17 #[] w fun e w' => e = .returned (.bool true) ∧ Ch [] w w' := by
  refine calls_of (n := 143) (E := []) (W := Hp w [] []) Try.func17 rfl rfl (Nat.le_of_ble_eq_true rfl) rfl (Hp.nil _ _) ?_
  refine jc_seq ?_
  -- region 0
  refine jc_region ?_
  refine jl_y rfl (by decide) rfl (y_assign rfl) ?_
  refine jl_nil ?_
  refine jq_then ?_
  refine jc_seq ?_
  -- region 1
  refine jc_region ?_
  refine jl_pcall rfl (by decide) rfl (goes_func rfl) (fun w1 hw1 => pcall hw1 (top_any _ w1 (by simp only [fits]; decide))) ?_
  refine jl_y rfl (by decide) rfl (y_move rfl) ?_
  refine jl_y rfl (by decide) rfl (y_extract rfl rfl) ?_
  refine jl_as (u := .int .u64 18446744073709551609) (congrArg (Value.int .u64) (by decide +kernel)) ?_
  refine jl_y rfl (by decide) rfl (y_extract rfl rfl) ?_
  refine jl_as (u := .int .i64 0) (congrArg (Value.int .i64) (by decide +kernel)) ?_
  refine jl_y rfl (by decide) rfl (y_assign rfl) ?_
  refine jl_y rfl (by decide) rfl (y_assign rfl) ?_
  refine jl_nil ?_
  refine jq_then ?_
  refine jc_seq ?_
  -- region 2
  refine jc_region ?_
  refine jl_pcall rfl (by decide) rfl (goes_func rfl) (fun w1 hw1 => pcall hw1 (top_any _ w1 (by simp only [fits]; decide))) ?_
  refine jl_y rfl (by decide) rfl (y_move rfl) ?_
  refine jl_y rfl (by decide) rfl (y_extract rfl rfl) ?_
  refine jl_as (u := .int .u64 18446744073709551615) (congrArg (Value.int .u64) (by decide +kernel)) ?_
  refine jl_y rfl (by decide) rfl (y_extract rfl rfl) ?_
  refine jl_as (u := .int .i64 0) (congrArg (Value.int .i64) (by decide +kernel)) ?_
  refine jl_y rfl (by decide) rfl (y_assign rfl) ?_
  refine jl_y rfl (by decide) rfl (y_assign rfl) ?_
  refine jl_nil ?_
  refine jq_then ?_
  refine jc_seq ?_
  -- region 3
  refine jc_region ?_
  refine jl_pcall rfl (by decide) rfl (goes_func rfl) (fun w1 hw1 => pcall hw1 (top_any _ w1 (by simp only [fits]; decide))) ?_
  refine jl_y rfl (by decide) rfl (y_move rfl) ?_
  refine jl_y rfl (by decide) rfl (y_extract rfl rfl) ?_
  refine jl_y rfl (by decide) rfl (y_extract rfl rfl) ?_
  refine jl_as (u := .int .i64 1) (congrArg (Value.int .i64) (by decide +kernel)) ?_
  refine jl_y rfl (by decide) rfl (y_assign rfl) ?_
  refine jl_y rfl (by decide) rfl (y_assign rfl) ?_
  refine jl_nil ?_
  refine jq_then ?_
  refine jc_seq ?_
  -- region 4
  refine jc_region ?_
  refine jl_pcall rfl (by decide) rfl (goes_func rfl) (fun w1 hw1 => pcall hw1 (fair_any _ _ w1 (by simp only [fits]; decide) (by simp only [fits]; decide))) ?_
  refine jl_y rfl (by decide) rfl (y_move rfl) ?_
  refine jl_y rfl (by decide) rfl (y_extract rfl rfl) ?_
  refine jl_as (u := .int .u64 9) (congrArg (Value.int .u64) (by decide +kernel)) ?_
  refine jl_y rfl (by decide) rfl (y_extract rfl rfl) ?_
  refine jl_as (u := .int .i64 0) (congrArg (Value.int .i64) (by decide +kernel)) ?_
  refine jl_y rfl (by decide) rfl (y_assign rfl) ?_
  refine jl_y rfl (by decide) rfl (y_assign rfl) ?_
  refine jl_nil ?_
  refine jq_then ?_
  refine jc_seq ?_
  -- region 5
  refine jc_region ?_
  refine jl_pcall rfl (by decide) rfl (goes_func rfl) (fun w1 hw1 => pcall hw1 (fair_any _ _ w1 (by simp only [fits]; decide) (by simp only [fits]; decide))) ?_
  refine jl_y rfl (by decide) rfl (y_move rfl) ?_
  refine jl_y rfl (by decide) rfl (y_extract rfl rfl) ?_
  refine jl_y rfl (by decide) rfl (y_extract rfl rfl) ?_
  refine jl_as (u := .int .i64 4) (congrArg (Value.int .i64) (by decide +kernel)) ?_
  refine jl_y rfl (by decide) rfl (y_assign rfl) ?_
  refine jl_y rfl (by decide) rfl (y_assign rfl) ?_
  refine jl_nil ?_
  refine jq_then ?_
  refine jc_seq ?_
  -- region 6
  refine jc_region ?_
  refine jl_pcall rfl (by decide) rfl (goes_func rfl) (fun w1 hw1 => pcall hw1 (wins_any _ _ _ _ w1 (by simp only [fits]; decide) (by simp only [fits]; decide) (by simp only [fits]; decide) (by simp only [fits]; decide))) ?_
  refine jl_y rfl (by decide) rfl (y_move rfl) ?_
  refine jl_y rfl (by decide) rfl (y_extract rfl rfl) ?_
  refine jl_as (u := .bool true) (congrArg Value.bool (by decide +kernel)) ?_
  refine jl_y rfl (by decide) rfl (y_extract rfl rfl) ?_
  refine jl_as (u := .int .i64 0) (congrArg (Value.int .i64) (by decide +kernel)) ?_
  refine jl_y rfl (by decide) rfl (y_assign rfl) ?_
  refine jl_y rfl (by decide) rfl (y_assign rfl) ?_
  refine jl_nil ?_
  refine jq_then ?_
  refine jc_seq ?_
  -- region 7
  refine jc_region ?_
  refine jl_pcall rfl (by decide) rfl (goes_func rfl) (fun w1 hw1 => pcall hw1 (wins_any _ _ _ _ w1 (by simp only [fits]; decide) (by simp only [fits]; decide) (by simp only [fits]; decide) (by simp only [fits]; decide))) ?_
  refine jl_y rfl (by decide) rfl (y_move rfl) ?_
  refine jl_y rfl (by decide) rfl (y_extract rfl rfl) ?_
  refine jl_as (u := .bool false) (congrArg Value.bool (by decide +kernel)) ?_
  refine jl_y rfl (by decide) rfl (y_extract rfl rfl) ?_
  refine jl_as (u := .int .i64 0) (congrArg (Value.int .i64) (by decide +kernel)) ?_
  refine jl_y rfl (by decide) rfl (y_assign rfl) ?_
  refine jl_y rfl (by decide) rfl (y_assign rfl) ?_
  refine jl_nil ?_
  refine jq_then ?_
  refine jc_seq ?_
  -- region 8
  refine jc_region ?_
  refine jl_pcall rfl (by decide) rfl (goes_func rfl) (fun w1 hw1 => pcall hw1 (wins_any _ _ _ _ w1 (by simp only [fits]; decide) (by simp only [fits]; decide) (by simp only [fits]; decide) (by simp only [fits]; decide))) ?_
  refine jl_y rfl (by decide) rfl (y_move rfl) ?_
  refine jl_y rfl (by decide) rfl (y_extract rfl rfl) ?_
  refine jl_y rfl (by decide) rfl (y_extract rfl rfl) ?_
  refine jl_as (u := .int .i64 1) (congrArg (Value.int .i64) (by decide +kernel)) ?_
  refine jl_y rfl (by decide) rfl (y_assign rfl) ?_
  refine jl_y rfl (by decide) rfl (y_assign rfl) ?_
  refine jl_nil ?_
  refine jq_then ?_
  refine jc_seq ?_
  -- region 9
  refine jc_region ?_
  refine jl_pcall rfl (by decide) rfl (goes_func rfl) (fun w1 hw1 => pcall hw1 (nominal_any _ _ _ w1 (by simp only [fits]; decide) (by simp only [fits]; decide) (by simp only [fits]; decide))) ?_
  refine jl_y rfl (by decide) rfl (y_move rfl) ?_
  refine jl_y rfl (by decide) rfl (y_extract rfl rfl) ?_
  refine jl_as (u := .int .u64 6) (congrArg (Value.int .u64) (by decide +kernel)) ?_
  refine jl_y rfl (by decide) rfl (y_extract rfl rfl) ?_
  refine jl_as (u := .int .i64 0) (congrArg (Value.int .i64) (by decide +kernel)) ?_
  refine jl_y rfl (by decide) rfl (y_assign rfl) ?_
  refine jl_y rfl (by decide) rfl (y_assign rfl) ?_
  refine jl_nil ?_
  refine jq_then ?_
  refine jc_seq ?_
  -- region 10
  refine jc_region ?_
  refine jl_pcall rfl (by decide) rfl (goes_func rfl) (fun w1 hw1 => pcall hw1 (nominal_any _ _ _ w1 (by simp only [fits]; decide) (by simp only [fits]; decide) (by simp only [fits]; decide))) ?_
  refine jl_y rfl (by decide) rfl (y_move rfl) ?_
  refine jl_y rfl (by decide) rfl (y_extract rfl rfl) ?_
  refine jl_y rfl (by decide) rfl (y_extract rfl rfl) ?_
  refine jl_as (u := .int .i64 4) (congrArg (Value.int .i64) (by decide +kernel)) ?_
  refine jl_y rfl (by decide) rfl (y_assign rfl) ?_
  refine jl_y rfl (by decide) rfl (y_assign rfl) ?_
  refine jl_nil ?_
  refine jq_then ?_
  refine jc_seq ?_
  -- region 11
  refine jc_region ?_
  refine jl_pcall rfl (by decide) rfl (goes_func rfl) (fun w1 hw1 => pcall hw1 (nominal_any _ _ _ w1 (by simp only [fits]; decide) (by simp only [fits]; decide) (by simp only [fits]; decide))) ?_
  refine jl_y rfl (by decide) rfl (y_move rfl) ?_
  refine jl_y rfl (by decide) rfl (y_extract rfl rfl) ?_
  refine jl_y rfl (by decide) rfl (y_extract rfl rfl) ?_
  refine jl_as (u := .int .i64 1) (congrArg (Value.int .i64) (by decide +kernel)) ?_
  refine jl_y rfl (by decide) rfl (y_assign rfl) ?_
  refine jl_y rfl (by decide) rfl (y_assign rfl) ?_
  refine jl_nil ?_
  refine jq_then ?_
  refine jc_seq ?_
  -- region 12
  refine jc_region ?_
  refine jl_pcall rfl (by decide) rfl (goes_func rfl) (fun w1 hw1 => pcall hw1 (commit_any sSalt 5 w1 (by decide) (by simp only [fits]; decide))) ?_
  refine jl_y rfl (by decide) rfl (y_assign rfl) ?_
  refine jl_nil ?_
  refine jq_then ?_
  refine jc_seq ?_
  -- region 13
  refine jc_region ?_
  refine jl_y rfl (by decide) rfl (y_move rfl) ?_
  refine jl_y rfl (by decide) rfl (y_eql rfl rfl) ?_
  refine jl_prop (fun h70 => ?_) (fun h70 => ?_)
  · first
    | (exfalso; omega)
    | (
      refine jl_y rfl (by decide) rfl (y_move rfl) ?_
      refine jl_y rfl (by decide) rfl (y_move rfl) ?_
      refine jl_y rfl (by decide) rfl (y_eql rfl rfl) ?_
      refine jl_prop (fun h73 => ?_) (fun h73 => ?_)
      · first
        | (exfalso; omega)
        | (
          refine jl_y rfl (by decide) rfl (y_pick_true rfl rfl) ?_
          refine jl_y rfl (by decide) rfl (y_move rfl) ?_
          refine jl_y rfl (by decide) rfl (y_move rfl) ?_
          refine jl_y rfl (by decide) rfl (y_eql rfl rfl) ?_
          refine jl_prop (fun h77 => ?_) (fun h77 => ?_)
          · first
            | (exfalso; omega)
            | (
              refine jl_y rfl (by decide) rfl (y_pick_true rfl rfl) ?_
              refine jl_y rfl (by decide) rfl (y_move rfl) ?_
              refine jl_y rfl (by decide) rfl (y_move rfl) ?_
              refine jl_y rfl (by decide) rfl (y_eql rfl rfl) ?_
              refine jl_prop (fun h81 => ?_) (fun h81 => ?_)
              · first
                | (exfalso; omega)
                | (
                  refine jl_y rfl (by decide) rfl (y_pick_true rfl rfl) ?_
                  refine jl_y rfl (by decide) rfl (y_move rfl) ?_
                  refine jl_y rfl (by decide) rfl (y_move rfl) ?_
                  refine jl_y rfl (by decide) rfl (y_eql rfl rfl) ?_
                  refine jl_prop (fun h85 => ?_) (fun h85 => ?_)
                  · first
                    | (exfalso; omega)
                    | (
                      refine jl_y rfl (by decide) rfl (y_pick_true rfl rfl) ?_
                      refine jl_y rfl (by decide) rfl (y_move rfl) ?_
                      refine jl_y rfl (by decide) rfl (y_move rfl) ?_
                      refine jl_y rfl (by decide) rfl (y_eql rfl rfl) ?_
                      refine jl_prop (fun h89 => ?_) (fun h89 => ?_)
                      · first
                        | (exfalso; omega)
                        | (
                          refine jl_y rfl (by decide) rfl (y_pick_true rfl rfl) ?_
                          refine jl_y rfl (by decide) rfl (y_move rfl) ?_
                          refine jl_y rfl (by decide) rfl (y_move rfl) ?_
                          refine jl_y rfl (by decide) rfl (y_eql rfl rfl) ?_
                          refine jl_prop (fun h93 => ?_) (fun h93 => ?_)
                          · first
                            | (exfalso; omega)
                            | (
                              refine jl_y rfl (by decide) rfl (y_pick_true rfl rfl) ?_
                              refine jl_y rfl (by decide) rfl (y_move rfl) ?_
                              refine jl_y rfl (by decide) rfl (y_move rfl) ?_
                              refine jl_y rfl (by decide) rfl (y_eql rfl rfl) ?_
                              refine jl_prop (fun h97 => ?_) (fun h97 => ?_)
                              · first
                                | (exfalso; omega)
                                | (
                                  refine jl_y rfl (by decide) rfl (y_pick_true rfl rfl) ?_
                                  refine jl_y rfl (by decide) rfl (y_move rfl) ?_
                                  refine jl_y rfl (by decide) rfl (y_move rfl) ?_
                                  refine jl_y rfl (by decide) rfl (y_pick_true rfl rfl) ?_
                                  refine jl_y rfl (by decide) rfl (y_move rfl) ?_
                                  refine jl_y rfl (by decide) rfl (y_move rfl) ?_
                                  refine jl_y rfl (by decide) rfl (y_eql rfl rfl) ?_
                                  refine jl_prop (fun h104 => ?_) (fun h104 => ?_)
                                  · first
                                    | (exfalso; omega)
                                    | (
                                      refine jl_y rfl (by decide) rfl (y_pick_true rfl rfl) ?_
                                      refine jl_y rfl (by decide) rfl (y_move rfl) ?_
                                      refine jl_y rfl (by decide) rfl (y_move rfl) ?_
                                      refine jl_y rfl (by decide) rfl (y_not rfl) ?_
                                      refine jl_y rfl (by decide) rfl (y_pick_true rfl rfl) ?_
                                      refine jl_y rfl (by decide) rfl (y_move rfl) ?_
                                      refine jl_y rfl (by decide) rfl (y_move rfl) ?_
                                      refine jl_y rfl (by decide) rfl (y_eql rfl rfl) ?_
                                      refine jl_prop (fun h112 => ?_) (fun h112 => ?_)
                                      · first
                                        | (exfalso; omega)
                                        | (
                                          refine jl_y rfl (by decide) rfl (y_pick_true rfl rfl) ?_
                                          refine jl_y rfl (by decide) rfl (y_move rfl) ?_
                                          refine jl_y rfl (by decide) rfl (y_move rfl) ?_
                                          refine jl_y rfl (by decide) rfl (y_eql rfl rfl) ?_
                                          refine jl_prop (fun h116 => ?_) (fun h116 => ?_)
                                          · first
                                            | (exfalso; omega)
                                            | (
                                              refine jl_y rfl (by decide) rfl (y_pick_true rfl rfl) ?_
                                              refine jl_y rfl (by decide) rfl (y_move rfl) ?_
                                              refine jl_y rfl (by decide) rfl (y_move rfl) ?_
                                              refine jl_y rfl (by decide) rfl (y_eql rfl rfl) ?_
                                              refine jl_prop (fun h120 => ?_) (fun h120 => ?_)
                                              · first
                                                | (exfalso; omega)
                                                | (
                                                  refine jl_y rfl (by decide) rfl (y_pick_true rfl rfl) ?_
                                                  refine jl_y rfl (by decide) rfl (y_move rfl) ?_
                                                  refine jl_y rfl (by decide) rfl (y_move rfl) ?_
                                                  refine jl_y rfl (by decide) rfl (y_eql rfl rfl) ?_
                                                  refine jl_prop (fun h124 => ?_) (fun h124 => ?_)
                                                  · first
                                                    | (exfalso; omega)
                                                    | (
                                                      refine jl_y rfl (by decide) rfl (y_pick_true rfl rfl) ?_
                                                      refine jl_y rfl (by decide) rfl (y_move rfl) ?_
                                                      refine jl_y rfl (by decide) rfl (y_move rfl) ?_
                                                      refine jl_y rfl (by decide) rfl (y_eql rfl rfl) ?_
                                                      refine jl_prop (fun h128 => ?_) (fun h128 => ?_)
                                                      · first
                                                        | (exfalso; omega)
                                                        | (
                                                          refine jl_y rfl (by decide) rfl (y_pick_true rfl rfl) ?_
                                                          refine jl_y rfl (by decide) rfl (y_move rfl) ?_
                                                          refine jl_y rfl (by decide) rfl (y_move rfl) ?_
                                                          refine jl_y rfl (by decide) rfl (y_eql rfl rfl) ?_
                                                          refine jl_prop (fun h132 => ?_) (fun h132 => ?_)
                                                          · first
                                                            | (exfalso; omega)
                                                            | (
                                                              refine jl_y rfl (by decide) rfl (y_pick_true rfl rfl) ?_
                                                              refine jl_y rfl (by decide) rfl (y_move rfl) ?_
                                                              refine jl_y rfl (by decide) rfl (y_move rfl) ?_
                                                              refine jl_y rfl (by decide) rfl (y_len_str rfl) ?_
                                                              refine jl_as (u := .int .i64 16) (congrArg (Value.int .i64) (by rw [commitS_size]; rfl)) ?_
                                                              refine jl_y rfl (by decide) rfl (y_eql rfl rfl) ?_
                                                              refine jl_prop (fun h137 => ?_) (fun h137 => ?_)
                                                              · first
                                                                | (exfalso; omega)
                                                                | (
                                                                  refine jl_y rfl (by decide) rfl (y_pick_true rfl rfl) ?_
                                                                  refine jl_y rfl (by decide) rfl (y_move rfl) ?_
                                                                  refine jl_y rfl (by decide) rfl (y_move rfl) ?_
                                                                  refine jl_pcall rfl (by decide) rfl (goes_func rfl) (fun w1 hw1 => pcall hw1 (opens_any _ sSalt 5 w1 (by decide) (by simp only [fits]; decide))) ?_
                                                                  refine jl_as (u := .bool true) (congrArg Value.bool (decide_eq_true rfl)) ?_
                                                                  refine jl_y rfl (by decide) rfl (y_pick_true rfl rfl) ?_
                                                                  refine jl_y rfl (by decide) rfl (y_assign rfl) ?_
                                                                  refine jl_nil ?_
                                                                  refine jq_then ?_
                                                                  refine jc_ret ?_
                                                                  refine jq_ret1 rfl rfl ?_
                                                                  exact fun _ hw => ⟨rfl, hw.ch⟩
                                                                  )
                                                              · first
                                                                | (exfalso; omega)
                                                                | (
                                                                  refine jl_y rfl (by decide) rfl (y_pick_true rfl rfl) ?_
                                                                  refine jl_y rfl (by decide) rfl (y_move rfl) ?_
                                                                  refine jl_skip rfl (by decide) rfl ?_
                                                                  refine jl_skip rfl (by decide) rfl ?_
                                                                  refine jl_y rfl (by decide) rfl (y_pick_false rfl rfl) ?_
                                                                  refine jl_y rfl (by decide) rfl (y_assign rfl) ?_
                                                                  refine jl_nil ?_
                                                                  refine jq_then ?_
                                                                  refine jc_ret ?_
                                                                  refine jq_ret1 rfl rfl ?_
                                                                  exact fun _ hw => ⟨rfl, hw.ch⟩
                                                                  )
                                                              )
                                                          · first
                                                            | (exfalso; omega)
                                                            | (
                                                              refine jl_y rfl (by decide) rfl (y_pick_true rfl rfl) ?_
                                                              refine jl_y rfl (by decide) rfl (y_move rfl) ?_
                                                              refine jl_skip rfl (by decide) rfl ?_
                                                              refine jl_skip rfl (by decide) rfl ?_
                                                              refine jl_skip rfl (by decide) rfl ?_
                                                              refine jl_y rfl (by decide) rfl (y_pick_false rfl rfl) ?_
                                                              refine jl_y rfl (by decide) rfl (y_move rfl) ?_
                                                              refine jl_skip rfl (by decide) rfl ?_
                                                              refine jl_skip rfl (by decide) rfl ?_
                                                              refine jl_y rfl (by decide) rfl (y_pick_false rfl rfl) ?_
                                                              refine jl_y rfl (by decide) rfl (y_assign rfl) ?_
                                                              refine jl_nil ?_
                                                              refine jq_then ?_
                                                              refine jc_ret ?_
                                                              refine jq_ret1 rfl rfl ?_
                                                              exact fun _ hw => ⟨rfl, hw.ch⟩
                                                              )
                                                          )
                                                      · first
                                                        | (exfalso; omega)
                                                        | (
                                                          refine jl_y rfl (by decide) rfl (y_pick_true rfl rfl) ?_
                                                          refine jl_y rfl (by decide) rfl (y_move rfl) ?_
                                                          refine jl_skip rfl (by decide) rfl ?_
                                                          refine jl_skip rfl (by decide) rfl ?_
                                                          refine jl_y rfl (by decide) rfl (y_pick_false rfl rfl) ?_
                                                          refine jl_y rfl (by decide) rfl (y_move rfl) ?_
                                                          refine jl_skip rfl (by decide) rfl ?_
                                                          refine jl_skip rfl (by decide) rfl ?_
                                                          refine jl_skip rfl (by decide) rfl ?_
                                                          refine jl_y rfl (by decide) rfl (y_pick_false rfl rfl) ?_
                                                          refine jl_y rfl (by decide) rfl (y_move rfl) ?_
                                                          refine jl_skip rfl (by decide) rfl ?_
                                                          refine jl_skip rfl (by decide) rfl ?_
                                                          refine jl_y rfl (by decide) rfl (y_pick_false rfl rfl) ?_
                                                          refine jl_y rfl (by decide) rfl (y_assign rfl) ?_
                                                          refine jl_nil ?_
                                                          refine jq_then ?_
                                                          refine jc_ret ?_
                                                          refine jq_ret1 rfl rfl ?_
                                                          exact fun _ hw => ⟨rfl, hw.ch⟩
                                                          )
                                                      )
                                                  · first
                                                    | (exfalso; omega)
                                                    | (
                                                      refine jl_y rfl (by decide) rfl (y_pick_true rfl rfl) ?_
                                                      refine jl_y rfl (by decide) rfl (y_move rfl) ?_
                                                      refine jl_skip rfl (by decide) rfl ?_
                                                      refine jl_skip rfl (by decide) rfl ?_
                                                      refine jl_y rfl (by decide) rfl (y_pick_false rfl rfl) ?_
                                                      refine jl_y rfl (by decide) rfl (y_move rfl) ?_
                                                      refine jl_skip rfl (by decide) rfl ?_
                                                      refine jl_skip rfl (by decide) rfl ?_
                                                      refine jl_y rfl (by decide) rfl (y_pick_false rfl rfl) ?_
                                                      refine jl_y rfl (by decide) rfl (y_move rfl) ?_
                                                      refine jl_skip rfl (by decide) rfl ?_
                                                      refine jl_skip rfl (by decide) rfl ?_
                                                      refine jl_skip rfl (by decide) rfl ?_
                                                      refine jl_y rfl (by decide) rfl (y_pick_false rfl rfl) ?_
                                                      refine jl_y rfl (by decide) rfl (y_move rfl) ?_
                                                      refine jl_skip rfl (by decide) rfl ?_
                                                      refine jl_skip rfl (by decide) rfl ?_
                                                      refine jl_y rfl (by decide) rfl (y_pick_false rfl rfl) ?_
                                                      refine jl_y rfl (by decide) rfl (y_assign rfl) ?_
                                                      refine jl_nil ?_
                                                      refine jq_then ?_
                                                      refine jc_ret ?_
                                                      refine jq_ret1 rfl rfl ?_
                                                      exact fun _ hw => ⟨rfl, hw.ch⟩
                                                      )
                                                  )
                                              · first
                                                | (exfalso; omega)
                                                | (
                                                  refine jl_y rfl (by decide) rfl (y_pick_true rfl rfl) ?_
                                                  refine jl_y rfl (by decide) rfl (y_move rfl) ?_
                                                  refine jl_skip rfl (by decide) rfl ?_
                                                  refine jl_skip rfl (by decide) rfl ?_
                                                  refine jl_y rfl (by decide) rfl (y_pick_false rfl rfl) ?_
                                                  refine jl_y rfl (by decide) rfl (y_move rfl) ?_
                                                  refine jl_skip rfl (by decide) rfl ?_
                                                  refine jl_skip rfl (by decide) rfl ?_
                                                  refine jl_y rfl (by decide) rfl (y_pick_false rfl rfl) ?_
                                                  refine jl_y rfl (by decide) rfl (y_move rfl) ?_
                                                  refine jl_skip rfl (by decide) rfl ?_
                                                  refine jl_skip rfl (by decide) rfl ?_
                                                  refine jl_y rfl (by decide) rfl (y_pick_false rfl rfl) ?_
                                                  refine jl_y rfl (by decide) rfl (y_move rfl) ?_
                                                  refine jl_skip rfl (by decide) rfl ?_
                                                  refine jl_skip rfl (by decide) rfl ?_
                                                  refine jl_skip rfl (by decide) rfl ?_
                                                  refine jl_y rfl (by decide) rfl (y_pick_false rfl rfl) ?_
                                                  refine jl_y rfl (by decide) rfl (y_move rfl) ?_
                                                  refine jl_skip rfl (by decide) rfl ?_
                                                  refine jl_skip rfl (by decide) rfl ?_
                                                  refine jl_y rfl (by decide) rfl (y_pick_false rfl rfl) ?_
                                                  refine jl_y rfl (by decide) rfl (y_assign rfl) ?_
                                                  refine jl_nil ?_
                                                  refine jq_then ?_
                                                  refine jc_ret ?_
                                                  refine jq_ret1 rfl rfl ?_
                                                  exact fun _ hw => ⟨rfl, hw.ch⟩
                                                  )
                                              )
                                          · first
                                            | (exfalso; omega)
                                            | (
                                              refine jl_y rfl (by decide) rfl (y_pick_true rfl rfl) ?_
                                              refine jl_y rfl (by decide) rfl (y_move rfl) ?_
                                              refine jl_skip rfl (by decide) rfl ?_
                                              refine jl_skip rfl (by decide) rfl ?_
                                              refine jl_y rfl (by decide) rfl (y_pick_false rfl rfl) ?_
                                              refine jl_y rfl (by decide) rfl (y_move rfl) ?_
                                              refine jl_skip rfl (by decide) rfl ?_
                                              refine jl_skip rfl (by decide) rfl ?_
                                              refine jl_y rfl (by decide) rfl (y_pick_false rfl rfl) ?_
                                              refine jl_y rfl (by decide) rfl (y_move rfl) ?_
                                              refine jl_skip rfl (by decide) rfl ?_
                                              refine jl_skip rfl (by decide) rfl ?_
                                              refine jl_y rfl (by decide) rfl (y_pick_false rfl rfl) ?_
                                              refine jl_y rfl (by decide) rfl (y_move rfl) ?_
                                              refine jl_skip rfl (by decide) rfl ?_
                                              refine jl_skip rfl (by decide) rfl ?_
                                              refine jl_y rfl (by decide) rfl (y_pick_false rfl rfl) ?_
                                              refine jl_y rfl (by decide) rfl (y_move rfl) ?_
                                              refine jl_skip rfl (by decide) rfl ?_
                                              refine jl_skip rfl (by decide) rfl ?_
                                              refine jl_skip rfl (by decide) rfl ?_
                                              refine jl_y rfl (by decide) rfl (y_pick_false rfl rfl) ?_
                                              refine jl_y rfl (by decide) rfl (y_move rfl) ?_
                                              refine jl_skip rfl (by decide) rfl ?_
                                              refine jl_skip rfl (by decide) rfl ?_
                                              refine jl_y rfl (by decide) rfl (y_pick_false rfl rfl) ?_
                                              refine jl_y rfl (by decide) rfl (y_assign rfl) ?_
                                              refine jl_nil ?_
                                              refine jq_then ?_
                                              refine jc_ret ?_
                                              refine jq_ret1 rfl rfl ?_
                                              exact fun _ hw => ⟨rfl, hw.ch⟩
                                              )
                                          )
                                      · first
                                        | (exfalso; omega)
                                        | (
                                          refine jl_y rfl (by decide) rfl (y_pick_true rfl rfl) ?_
                                          refine jl_y rfl (by decide) rfl (y_move rfl) ?_
                                          refine jl_skip rfl (by decide) rfl ?_
                                          refine jl_skip rfl (by decide) rfl ?_
                                          refine jl_y rfl (by decide) rfl (y_pick_false rfl rfl) ?_
                                          refine jl_y rfl (by decide) rfl (y_move rfl) ?_
                                          refine jl_skip rfl (by decide) rfl ?_
                                          refine jl_skip rfl (by decide) rfl ?_
                                          refine jl_y rfl (by decide) rfl (y_pick_false rfl rfl) ?_
                                          refine jl_y rfl (by decide) rfl (y_move rfl) ?_
                                          refine jl_skip rfl (by decide) rfl ?_
                                          refine jl_skip rfl (by decide) rfl ?_
                                          refine jl_y rfl (by decide) rfl (y_pick_false rfl rfl) ?_
                                          refine jl_y rfl (by decide) rfl (y_move rfl) ?_
                                          refine jl_skip rfl (by decide) rfl ?_
                                          refine jl_skip rfl (by decide) rfl ?_
                                          refine jl_y rfl (by decide) rfl (y_pick_false rfl rfl) ?_
                                          refine jl_y rfl (by decide) rfl (y_move rfl) ?_
                                          refine jl_skip rfl (by decide) rfl ?_
                                          refine jl_skip rfl (by decide) rfl ?_
                                          refine jl_y rfl (by decide) rfl (y_pick_false rfl rfl) ?_
                                          refine jl_y rfl (by decide) rfl (y_move rfl) ?_
                                          refine jl_skip rfl (by decide) rfl ?_
                                          refine jl_skip rfl (by decide) rfl ?_
                                          refine jl_skip rfl (by decide) rfl ?_
                                          refine jl_y rfl (by decide) rfl (y_pick_false rfl rfl) ?_
                                          refine jl_y rfl (by decide) rfl (y_move rfl) ?_
                                          refine jl_skip rfl (by decide) rfl ?_
                                          refine jl_skip rfl (by decide) rfl ?_
                                          refine jl_y rfl (by decide) rfl (y_pick_false rfl rfl) ?_
                                          refine jl_y rfl (by decide) rfl (y_assign rfl) ?_
                                          refine jl_nil ?_
                                          refine jq_then ?_
                                          refine jc_ret ?_
                                          refine jq_ret1 rfl rfl ?_
                                          exact fun _ hw => ⟨rfl, hw.ch⟩
                                          )
                                      )
                                  · first
                                    | (exfalso; omega)
                                    | (
                                      refine jl_y rfl (by decide) rfl (y_pick_true rfl rfl) ?_
                                      refine jl_y rfl (by decide) rfl (y_move rfl) ?_
                                      refine jl_skip rfl (by decide) rfl ?_
                                      refine jl_skip rfl (by decide) rfl ?_
                                      refine jl_y rfl (by decide) rfl (y_pick_false rfl rfl) ?_
                                      refine jl_y rfl (by decide) rfl (y_move rfl) ?_
                                      refine jl_skip rfl (by decide) rfl ?_
                                      refine jl_skip rfl (by decide) rfl ?_
                                      refine jl_y rfl (by decide) rfl (y_pick_false rfl rfl) ?_
                                      refine jl_y rfl (by decide) rfl (y_move rfl) ?_
                                      refine jl_skip rfl (by decide) rfl ?_
                                      refine jl_skip rfl (by decide) rfl ?_
                                      refine jl_y rfl (by decide) rfl (y_pick_false rfl rfl) ?_
                                      refine jl_y rfl (by decide) rfl (y_move rfl) ?_
                                      refine jl_skip rfl (by decide) rfl ?_
                                      refine jl_skip rfl (by decide) rfl ?_
                                      refine jl_y rfl (by decide) rfl (y_pick_false rfl rfl) ?_
                                      refine jl_y rfl (by decide) rfl (y_move rfl) ?_
                                      refine jl_skip rfl (by decide) rfl ?_
                                      refine jl_skip rfl (by decide) rfl ?_
                                      refine jl_y rfl (by decide) rfl (y_pick_false rfl rfl) ?_
                                      refine jl_y rfl (by decide) rfl (y_move rfl) ?_
                                      refine jl_skip rfl (by decide) rfl ?_
                                      refine jl_skip rfl (by decide) rfl ?_
                                      refine jl_y rfl (by decide) rfl (y_pick_false rfl rfl) ?_
                                      refine jl_y rfl (by decide) rfl (y_move rfl) ?_
                                      refine jl_skip rfl (by decide) rfl ?_
                                      refine jl_skip rfl (by decide) rfl ?_
                                      refine jl_y rfl (by decide) rfl (y_pick_false rfl rfl) ?_
                                      refine jl_y rfl (by decide) rfl (y_move rfl) ?_
                                      refine jl_skip rfl (by decide) rfl ?_
                                      refine jl_skip rfl (by decide) rfl ?_
                                      refine jl_skip rfl (by decide) rfl ?_
                                      refine jl_y rfl (by decide) rfl (y_pick_false rfl rfl) ?_
                                      refine jl_y rfl (by decide) rfl (y_move rfl) ?_
                                      refine jl_skip rfl (by decide) rfl ?_
                                      refine jl_skip rfl (by decide) rfl ?_
                                      refine jl_y rfl (by decide) rfl (y_pick_false rfl rfl) ?_
                                      refine jl_y rfl (by decide) rfl (y_assign rfl) ?_
                                      refine jl_nil ?_
                                      refine jq_then ?_
                                      refine jc_ret ?_
                                      refine jq_ret1 rfl rfl ?_
                                      exact fun _ hw => ⟨rfl, hw.ch⟩
                                      )
                                  )
                              · first
                                | (exfalso; omega)
                                | (
                                  refine jl_y rfl (by decide) rfl (y_pick_true rfl rfl) ?_
                                  refine jl_y rfl (by decide) rfl (y_move rfl) ?_
                                  refine jl_skip rfl (by decide) rfl ?_
                                  refine jl_y rfl (by decide) rfl (y_pick_false rfl rfl) ?_
                                  refine jl_y rfl (by decide) rfl (y_move rfl) ?_
                                  refine jl_skip rfl (by decide) rfl ?_
                                  refine jl_skip rfl (by decide) rfl ?_
                                  refine jl_y rfl (by decide) rfl (y_pick_false rfl rfl) ?_
                                  refine jl_y rfl (by decide) rfl (y_move rfl) ?_
                                  refine jl_skip rfl (by decide) rfl ?_
                                  refine jl_skip rfl (by decide) rfl ?_
                                  refine jl_y rfl (by decide) rfl (y_pick_false rfl rfl) ?_
                                  refine jl_y rfl (by decide) rfl (y_move rfl) ?_
                                  refine jl_skip rfl (by decide) rfl ?_
                                  refine jl_skip rfl (by decide) rfl ?_
                                  refine jl_y rfl (by decide) rfl (y_pick_false rfl rfl) ?_
                                  refine jl_y rfl (by decide) rfl (y_move rfl) ?_
                                  refine jl_skip rfl (by decide) rfl ?_
                                  refine jl_skip rfl (by decide) rfl ?_
                                  refine jl_y rfl (by decide) rfl (y_pick_false rfl rfl) ?_
                                  refine jl_y rfl (by decide) rfl (y_move rfl) ?_
                                  refine jl_skip rfl (by decide) rfl ?_
                                  refine jl_skip rfl (by decide) rfl ?_
                                  refine jl_y rfl (by decide) rfl (y_pick_false rfl rfl) ?_
                                  refine jl_y rfl (by decide) rfl (y_move rfl) ?_
                                  refine jl_skip rfl (by decide) rfl ?_
                                  refine jl_skip rfl (by decide) rfl ?_
                                  refine jl_y rfl (by decide) rfl (y_pick_false rfl rfl) ?_
                                  refine jl_y rfl (by decide) rfl (y_move rfl) ?_
                                  refine jl_skip rfl (by decide) rfl ?_
                                  refine jl_skip rfl (by decide) rfl ?_
                                  refine jl_y rfl (by decide) rfl (y_pick_false rfl rfl) ?_
                                  refine jl_y rfl (by decide) rfl (y_move rfl) ?_
                                  refine jl_skip rfl (by decide) rfl ?_
                                  refine jl_skip rfl (by decide) rfl ?_
                                  refine jl_y rfl (by decide) rfl (y_pick_false rfl rfl) ?_
                                  refine jl_y rfl (by decide) rfl (y_move rfl) ?_
                                  refine jl_skip rfl (by decide) rfl ?_
                                  refine jl_skip rfl (by decide) rfl ?_
                                  refine jl_skip rfl (by decide) rfl ?_
                                  refine jl_y rfl (by decide) rfl (y_pick_false rfl rfl) ?_
                                  refine jl_y rfl (by decide) rfl (y_move rfl) ?_
                                  refine jl_skip rfl (by decide) rfl ?_
                                  refine jl_skip rfl (by decide) rfl ?_
                                  refine jl_y rfl (by decide) rfl (y_pick_false rfl rfl) ?_
                                  refine jl_y rfl (by decide) rfl (y_assign rfl) ?_
                                  refine jl_nil ?_
                                  refine jq_then ?_
                                  refine jc_ret ?_
                                  refine jq_ret1 rfl rfl ?_
                                  exact fun _ hw => ⟨rfl, hw.ch⟩
                                  )
                              )
                          · first
                            | (exfalso; omega)
                            | (
                              refine jl_y rfl (by decide) rfl (y_pick_true rfl rfl) ?_
                              refine jl_y rfl (by decide) rfl (y_move rfl) ?_
                              refine jl_skip rfl (by decide) rfl ?_
                              refine jl_skip rfl (by decide) rfl ?_
                              refine jl_y rfl (by decide) rfl (y_pick_false rfl rfl) ?_
                              refine jl_y rfl (by decide) rfl (y_move rfl) ?_
                              refine jl_skip rfl (by decide) rfl ?_
                              refine jl_y rfl (by decide) rfl (y_pick_false rfl rfl) ?_
                              refine jl_y rfl (by decide) rfl (y_move rfl) ?_
                              refine jl_skip rfl (by decide) rfl ?_
                              refine jl_skip rfl (by decide) rfl ?_
                              refine jl_y rfl (by decide) rfl (y_pick_false rfl rfl) ?_
                              refine jl_y rfl (by decide) rfl (y_move rfl) ?_
                              refine jl_skip rfl (by decide) rfl ?_
                              refine jl_skip rfl (by decide) rfl ?_
                              refine jl_y rfl (by decide) rfl (y_pick_false rfl rfl) ?_
                              refine jl_y rfl (by decide) rfl (y_move rfl) ?_
                              refine jl_skip rfl (by decide) rfl ?_
                              refine jl_skip rfl (by decide) rfl ?_
                              refine jl_y rfl (by decide) rfl (y_pick_false rfl rfl) ?_
                              refine jl_y rfl (by decide) rfl (y_move rfl) ?_
                              refine jl_skip rfl (by decide) rfl ?_
                              refine jl_skip rfl (by decide) rfl ?_
                              refine jl_y rfl (by decide) rfl (y_pick_false rfl rfl) ?_
                              refine jl_y rfl (by decide) rfl (y_move rfl) ?_
                              refine jl_skip rfl (by decide) rfl ?_
                              refine jl_skip rfl (by decide) rfl ?_
                              refine jl_y rfl (by decide) rfl (y_pick_false rfl rfl) ?_
                              refine jl_y rfl (by decide) rfl (y_move rfl) ?_
                              refine jl_skip rfl (by decide) rfl ?_
                              refine jl_skip rfl (by decide) rfl ?_
                              refine jl_y rfl (by decide) rfl (y_pick_false rfl rfl) ?_
                              refine jl_y rfl (by decide) rfl (y_move rfl) ?_
                              refine jl_skip rfl (by decide) rfl ?_
                              refine jl_skip rfl (by decide) rfl ?_
                              refine jl_y rfl (by decide) rfl (y_pick_false rfl rfl) ?_
                              refine jl_y rfl (by decide) rfl (y_move rfl) ?_
                              refine jl_skip rfl (by decide) rfl ?_
                              refine jl_skip rfl (by decide) rfl ?_
                              refine jl_y rfl (by decide) rfl (y_pick_false rfl rfl) ?_
                              refine jl_y rfl (by decide) rfl (y_move rfl) ?_
                              refine jl_skip rfl (by decide) rfl ?_
                              refine jl_skip rfl (by decide) rfl ?_
                              refine jl_skip rfl (by decide) rfl ?_
                              refine jl_y rfl (by decide) rfl (y_pick_false rfl rfl) ?_
                              refine jl_y rfl (by decide) rfl (y_move rfl) ?_
                              refine jl_skip rfl (by decide) rfl ?_
                              refine jl_skip rfl (by decide) rfl ?_
                              refine jl_y rfl (by decide) rfl (y_pick_false rfl rfl) ?_
                              refine jl_y rfl (by decide) rfl (y_assign rfl) ?_
                              refine jl_nil ?_
                              refine jq_then ?_
                              refine jc_ret ?_
                              refine jq_ret1 rfl rfl ?_
                              exact fun _ hw => ⟨rfl, hw.ch⟩
                              )
                          )
                      · first
                        | (exfalso; omega)
                        | (
                          refine jl_y rfl (by decide) rfl (y_pick_true rfl rfl) ?_
                          refine jl_y rfl (by decide) rfl (y_move rfl) ?_
                          refine jl_skip rfl (by decide) rfl ?_
                          refine jl_skip rfl (by decide) rfl ?_
                          refine jl_y rfl (by decide) rfl (y_pick_false rfl rfl) ?_
                          refine jl_y rfl (by decide) rfl (y_move rfl) ?_
                          refine jl_skip rfl (by decide) rfl ?_
                          refine jl_skip rfl (by decide) rfl ?_
                          refine jl_y rfl (by decide) rfl (y_pick_false rfl rfl) ?_
                          refine jl_y rfl (by decide) rfl (y_move rfl) ?_
                          refine jl_skip rfl (by decide) rfl ?_
                          refine jl_y rfl (by decide) rfl (y_pick_false rfl rfl) ?_
                          refine jl_y rfl (by decide) rfl (y_move rfl) ?_
                          refine jl_skip rfl (by decide) rfl ?_
                          refine jl_skip rfl (by decide) rfl ?_
                          refine jl_y rfl (by decide) rfl (y_pick_false rfl rfl) ?_
                          refine jl_y rfl (by decide) rfl (y_move rfl) ?_
                          refine jl_skip rfl (by decide) rfl ?_
                          refine jl_skip rfl (by decide) rfl ?_
                          refine jl_y rfl (by decide) rfl (y_pick_false rfl rfl) ?_
                          refine jl_y rfl (by decide) rfl (y_move rfl) ?_
                          refine jl_skip rfl (by decide) rfl ?_
                          refine jl_skip rfl (by decide) rfl ?_
                          refine jl_y rfl (by decide) rfl (y_pick_false rfl rfl) ?_
                          refine jl_y rfl (by decide) rfl (y_move rfl) ?_
                          refine jl_skip rfl (by decide) rfl ?_
                          refine jl_skip rfl (by decide) rfl ?_
                          refine jl_y rfl (by decide) rfl (y_pick_false rfl rfl) ?_
                          refine jl_y rfl (by decide) rfl (y_move rfl) ?_
                          refine jl_skip rfl (by decide) rfl ?_
                          refine jl_skip rfl (by decide) rfl ?_
                          refine jl_y rfl (by decide) rfl (y_pick_false rfl rfl) ?_
                          refine jl_y rfl (by decide) rfl (y_move rfl) ?_
                          refine jl_skip rfl (by decide) rfl ?_
                          refine jl_skip rfl (by decide) rfl ?_
                          refine jl_y rfl (by decide) rfl (y_pick_false rfl rfl) ?_
                          refine jl_y rfl (by decide) rfl (y_move rfl) ?_
                          refine jl_skip rfl (by decide) rfl ?_
                          refine jl_skip rfl (by decide) rfl ?_
                          refine jl_y rfl (by decide) rfl (y_pick_false rfl rfl) ?_
                          refine jl_y rfl (by decide) rfl (y_move rfl) ?_
                          refine jl_skip rfl (by decide) rfl ?_
                          refine jl_skip rfl (by decide) rfl ?_
                          refine jl_y rfl (by decide) rfl (y_pick_false rfl rfl) ?_
                          refine jl_y rfl (by decide) rfl (y_move rfl) ?_
                          refine jl_skip rfl (by decide) rfl ?_
                          refine jl_skip rfl (by decide) rfl ?_
                          refine jl_skip rfl (by decide) rfl ?_
                          refine jl_y rfl (by decide) rfl (y_pick_false rfl rfl) ?_
                          refine jl_y rfl (by decide) rfl (y_move rfl) ?_
                          refine jl_skip rfl (by decide) rfl ?_
                          refine jl_skip rfl (by decide) rfl ?_
                          refine jl_y rfl (by decide) rfl (y_pick_false rfl rfl) ?_
                          refine jl_y rfl (by decide) rfl (y_assign rfl) ?_
                          refine jl_nil ?_
                          refine jq_then ?_
                          refine jc_ret ?_
                          refine jq_ret1 rfl rfl ?_
                          exact fun _ hw => ⟨rfl, hw.ch⟩
                          )
                      )
                  · first
                    | (exfalso; omega)
                    | (
                      refine jl_y rfl (by decide) rfl (y_pick_true rfl rfl) ?_
                      refine jl_y rfl (by decide) rfl (y_move rfl) ?_
                      refine jl_skip rfl (by decide) rfl ?_
                      refine jl_skip rfl (by decide) rfl ?_
                      refine jl_y rfl (by decide) rfl (y_pick_false rfl rfl) ?_
                      refine jl_y rfl (by decide) rfl (y_move rfl) ?_
                      refine jl_skip rfl (by decide) rfl ?_
                      refine jl_skip rfl (by decide) rfl ?_
                      refine jl_y rfl (by decide) rfl (y_pick_false rfl rfl) ?_
                      refine jl_y rfl (by decide) rfl (y_move rfl) ?_
                      refine jl_skip rfl (by decide) rfl ?_
                      refine jl_skip rfl (by decide) rfl ?_
                      refine jl_y rfl (by decide) rfl (y_pick_false rfl rfl) ?_
                      refine jl_y rfl (by decide) rfl (y_move rfl) ?_
                      refine jl_skip rfl (by decide) rfl ?_
                      refine jl_y rfl (by decide) rfl (y_pick_false rfl rfl) ?_
                      refine jl_y rfl (by decide) rfl (y_move rfl) ?_
                      refine jl_skip rfl (by decide) rfl ?_
                      refine jl_skip rfl (by decide) rfl ?_
                      refine jl_y rfl (by decide) rfl (y_pick_false rfl rfl) ?_
                      refine jl_y rfl (by decide) rfl (y_move rfl) ?_
                      refine jl_skip rfl (by decide) rfl ?_
                      refine jl_skip rfl (by decide) rfl ?_
                      refine jl_y rfl (by decide) rfl (y_pick_false rfl rfl) ?_
                      refine jl_y rfl (by decide) rfl (y_move rfl) ?_
                      refine jl_skip rfl (by decide) rfl ?_
                      refine jl_skip rfl (by decide) rfl ?_
                      refine jl_y rfl (by decide) rfl (y_pick_false rfl rfl) ?_
                      refine jl_y rfl (by decide) rfl (y_move rfl) ?_
                      refine jl_skip rfl (by decide) rfl ?_
                      refine jl_skip rfl (by decide) rfl ?_
                      refine jl_y rfl (by decide) rfl (y_pick_false rfl rfl) ?_
                      refine jl_y rfl (by decide) rfl (y_move rfl) ?_
                      refine jl_skip rfl (by decide) rfl ?_
                      refine jl_skip rfl (by decide) rfl ?_
                      refine jl_y rfl (by decide) rfl (y_pick_false rfl rfl) ?_
                      refine jl_y rfl (by decide) rfl (y_move rfl) ?_
                      refine jl_skip rfl (by decide) rfl ?_
                      refine jl_skip rfl (by decide) rfl ?_
                      refine jl_y rfl (by decide) rfl (y_pick_false rfl rfl) ?_
                      refine jl_y rfl (by decide) rfl (y_move rfl) ?_
                      refine jl_skip rfl (by decide) rfl ?_
                      refine jl_skip rfl (by decide) rfl ?_
                      refine jl_y rfl (by decide) rfl (y_pick_false rfl rfl) ?_
                      refine jl_y rfl (by decide) rfl (y_move rfl) ?_
                      refine jl_skip rfl (by decide) rfl ?_
                      refine jl_skip rfl (by decide) rfl ?_
                      refine jl_y rfl (by decide) rfl (y_pick_false rfl rfl) ?_
                      refine jl_y rfl (by decide) rfl (y_move rfl) ?_
                      refine jl_skip rfl (by decide) rfl ?_
                      refine jl_skip rfl (by decide) rfl ?_
                      refine jl_skip rfl (by decide) rfl ?_
                      refine jl_y rfl (by decide) rfl (y_pick_false rfl rfl) ?_
                      refine jl_y rfl (by decide) rfl (y_move rfl) ?_
                      refine jl_skip rfl (by decide) rfl ?_
                      refine jl_skip rfl (by decide) rfl ?_
                      refine jl_y rfl (by decide) rfl (y_pick_false rfl rfl) ?_
                      refine jl_y rfl (by decide) rfl (y_assign rfl) ?_
                      refine jl_nil ?_
                      refine jq_then ?_
                      refine jc_ret ?_
                      refine jq_ret1 rfl rfl ?_
                      exact fun _ hw => ⟨rfl, hw.ch⟩
                      )
                  )
              · first
                | (exfalso; omega)
                | (
                  refine jl_y rfl (by decide) rfl (y_pick_true rfl rfl) ?_
                  refine jl_y rfl (by decide) rfl (y_move rfl) ?_
                  refine jl_skip rfl (by decide) rfl ?_
                  refine jl_skip rfl (by decide) rfl ?_
                  refine jl_y rfl (by decide) rfl (y_pick_false rfl rfl) ?_
                  refine jl_y rfl (by decide) rfl (y_move rfl) ?_
                  refine jl_skip rfl (by decide) rfl ?_
                  refine jl_skip rfl (by decide) rfl ?_
                  refine jl_y rfl (by decide) rfl (y_pick_false rfl rfl) ?_
                  refine jl_y rfl (by decide) rfl (y_move rfl) ?_
                  refine jl_skip rfl (by decide) rfl ?_
                  refine jl_skip rfl (by decide) rfl ?_
                  refine jl_y rfl (by decide) rfl (y_pick_false rfl rfl) ?_
                  refine jl_y rfl (by decide) rfl (y_move rfl) ?_
                  refine jl_skip rfl (by decide) rfl ?_
                  refine jl_skip rfl (by decide) rfl ?_
                  refine jl_y rfl (by decide) rfl (y_pick_false rfl rfl) ?_
                  refine jl_y rfl (by decide) rfl (y_move rfl) ?_
                  refine jl_skip rfl (by decide) rfl ?_
                  refine jl_y rfl (by decide) rfl (y_pick_false rfl rfl) ?_
                  refine jl_y rfl (by decide) rfl (y_move rfl) ?_
                  refine jl_skip rfl (by decide) rfl ?_
                  refine jl_skip rfl (by decide) rfl ?_
                  refine jl_y rfl (by decide) rfl (y_pick_false rfl rfl) ?_
                  refine jl_y rfl (by decide) rfl (y_move rfl) ?_
                  refine jl_skip rfl (by decide) rfl ?_
                  refine jl_skip rfl (by decide) rfl ?_
                  refine jl_y rfl (by decide) rfl (y_pick_false rfl rfl) ?_
                  refine jl_y rfl (by decide) rfl (y_move rfl) ?_
                  refine jl_skip rfl (by decide) rfl ?_
                  refine jl_skip rfl (by decide) rfl ?_
                  refine jl_y rfl (by decide) rfl (y_pick_false rfl rfl) ?_
                  refine jl_y rfl (by decide) rfl (y_move rfl) ?_
                  refine jl_skip rfl (by decide) rfl ?_
                  refine jl_skip rfl (by decide) rfl ?_
                  refine jl_y rfl (by decide) rfl (y_pick_false rfl rfl) ?_
                  refine jl_y rfl (by decide) rfl (y_move rfl) ?_
                  refine jl_skip rfl (by decide) rfl ?_
                  refine jl_skip rfl (by decide) rfl ?_
                  refine jl_y rfl (by decide) rfl (y_pick_false rfl rfl) ?_
                  refine jl_y rfl (by decide) rfl (y_move rfl) ?_
                  refine jl_skip rfl (by decide) rfl ?_
                  refine jl_skip rfl (by decide) rfl ?_
                  refine jl_y rfl (by decide) rfl (y_pick_false rfl rfl) ?_
                  refine jl_y rfl (by decide) rfl (y_move rfl) ?_
                  refine jl_skip rfl (by decide) rfl ?_
                  refine jl_skip rfl (by decide) rfl ?_
                  refine jl_y rfl (by decide) rfl (y_pick_false rfl rfl) ?_
                  refine jl_y rfl (by decide) rfl (y_move rfl) ?_
                  refine jl_skip rfl (by decide) rfl ?_
                  refine jl_skip rfl (by decide) rfl ?_
                  refine jl_y rfl (by decide) rfl (y_pick_false rfl rfl) ?_
                  refine jl_y rfl (by decide) rfl (y_move rfl) ?_
                  refine jl_skip rfl (by decide) rfl ?_
                  refine jl_skip rfl (by decide) rfl ?_
                  refine jl_skip rfl (by decide) rfl ?_
                  refine jl_y rfl (by decide) rfl (y_pick_false rfl rfl) ?_
                  refine jl_y rfl (by decide) rfl (y_move rfl) ?_
                  refine jl_skip rfl (by decide) rfl ?_
                  refine jl_skip rfl (by decide) rfl ?_
                  refine jl_y rfl (by decide) rfl (y_pick_false rfl rfl) ?_
                  refine jl_y rfl (by decide) rfl (y_assign rfl) ?_
                  refine jl_nil ?_
                  refine jq_then ?_
                  refine jc_ret ?_
                  refine jq_ret1 rfl rfl ?_
                  exact fun _ hw => ⟨rfl, hw.ch⟩
                  )
              )
          · first
            | (exfalso; omega)
            | (
              refine jl_y rfl (by decide) rfl (y_pick_true rfl rfl) ?_
              refine jl_y rfl (by decide) rfl (y_move rfl) ?_
              refine jl_skip rfl (by decide) rfl ?_
              refine jl_skip rfl (by decide) rfl ?_
              refine jl_y rfl (by decide) rfl (y_pick_false rfl rfl) ?_
              refine jl_y rfl (by decide) rfl (y_move rfl) ?_
              refine jl_skip rfl (by decide) rfl ?_
              refine jl_skip rfl (by decide) rfl ?_
              refine jl_y rfl (by decide) rfl (y_pick_false rfl rfl) ?_
              refine jl_y rfl (by decide) rfl (y_move rfl) ?_
              refine jl_skip rfl (by decide) rfl ?_
              refine jl_skip rfl (by decide) rfl ?_
              refine jl_y rfl (by decide) rfl (y_pick_false rfl rfl) ?_
              refine jl_y rfl (by decide) rfl (y_move rfl) ?_
              refine jl_skip rfl (by decide) rfl ?_
              refine jl_skip rfl (by decide) rfl ?_
              refine jl_y rfl (by decide) rfl (y_pick_false rfl rfl) ?_
              refine jl_y rfl (by decide) rfl (y_move rfl) ?_
              refine jl_skip rfl (by decide) rfl ?_
              refine jl_skip rfl (by decide) rfl ?_
              refine jl_y rfl (by decide) rfl (y_pick_false rfl rfl) ?_
              refine jl_y rfl (by decide) rfl (y_move rfl) ?_
              refine jl_skip rfl (by decide) rfl ?_
              refine jl_y rfl (by decide) rfl (y_pick_false rfl rfl) ?_
              refine jl_y rfl (by decide) rfl (y_move rfl) ?_
              refine jl_skip rfl (by decide) rfl ?_
              refine jl_skip rfl (by decide) rfl ?_
              refine jl_y rfl (by decide) rfl (y_pick_false rfl rfl) ?_
              refine jl_y rfl (by decide) rfl (y_move rfl) ?_
              refine jl_skip rfl (by decide) rfl ?_
              refine jl_skip rfl (by decide) rfl ?_
              refine jl_y rfl (by decide) rfl (y_pick_false rfl rfl) ?_
              refine jl_y rfl (by decide) rfl (y_move rfl) ?_
              refine jl_skip rfl (by decide) rfl ?_
              refine jl_skip rfl (by decide) rfl ?_
              refine jl_y rfl (by decide) rfl (y_pick_false rfl rfl) ?_
              refine jl_y rfl (by decide) rfl (y_move rfl) ?_
              refine jl_skip rfl (by decide) rfl ?_
              refine jl_skip rfl (by decide) rfl ?_
              refine jl_y rfl (by decide) rfl (y_pick_false rfl rfl) ?_
              refine jl_y rfl (by decide) rfl (y_move rfl) ?_
              refine jl_skip rfl (by decide) rfl ?_
              refine jl_skip rfl (by decide) rfl ?_
              refine jl_y rfl (by decide) rfl (y_pick_false rfl rfl) ?_
              refine jl_y rfl (by decide) rfl (y_move rfl) ?_
              refine jl_skip rfl (by decide) rfl ?_
              refine jl_skip rfl (by decide) rfl ?_
              refine jl_y rfl (by decide) rfl (y_pick_false rfl rfl) ?_
              refine jl_y rfl (by decide) rfl (y_move rfl) ?_
              refine jl_skip rfl (by decide) rfl ?_
              refine jl_skip rfl (by decide) rfl ?_
              refine jl_y rfl (by decide) rfl (y_pick_false rfl rfl) ?_
              refine jl_y rfl (by decide) rfl (y_move rfl) ?_
              refine jl_skip rfl (by decide) rfl ?_
              refine jl_skip rfl (by decide) rfl ?_
              refine jl_y rfl (by decide) rfl (y_pick_false rfl rfl) ?_
              refine jl_y rfl (by decide) rfl (y_move rfl) ?_
              refine jl_skip rfl (by decide) rfl ?_
              refine jl_skip rfl (by decide) rfl ?_
              refine jl_skip rfl (by decide) rfl ?_
              refine jl_y rfl (by decide) rfl (y_pick_false rfl rfl) ?_
              refine jl_y rfl (by decide) rfl (y_move rfl) ?_
              refine jl_skip rfl (by decide) rfl ?_
              refine jl_skip rfl (by decide) rfl ?_
              refine jl_y rfl (by decide) rfl (y_pick_false rfl rfl) ?_
              refine jl_y rfl (by decide) rfl (y_assign rfl) ?_
              refine jl_nil ?_
              refine jq_then ?_
              refine jc_ret ?_
              refine jq_ret1 rfl rfl ?_
              exact fun _ hw => ⟨rfl, hw.ch⟩
              )
          )
      · first
        | (exfalso; omega)
        | (
          refine jl_y rfl (by decide) rfl (y_pick_true rfl rfl) ?_
          refine jl_y rfl (by decide) rfl (y_move rfl) ?_
          refine jl_skip rfl (by decide) rfl ?_
          refine jl_skip rfl (by decide) rfl ?_
          refine jl_y rfl (by decide) rfl (y_pick_false rfl rfl) ?_
          refine jl_y rfl (by decide) rfl (y_move rfl) ?_
          refine jl_skip rfl (by decide) rfl ?_
          refine jl_skip rfl (by decide) rfl ?_
          refine jl_y rfl (by decide) rfl (y_pick_false rfl rfl) ?_
          refine jl_y rfl (by decide) rfl (y_move rfl) ?_
          refine jl_skip rfl (by decide) rfl ?_
          refine jl_skip rfl (by decide) rfl ?_
          refine jl_y rfl (by decide) rfl (y_pick_false rfl rfl) ?_
          refine jl_y rfl (by decide) rfl (y_move rfl) ?_
          refine jl_skip rfl (by decide) rfl ?_
          refine jl_skip rfl (by decide) rfl ?_
          refine jl_y rfl (by decide) rfl (y_pick_false rfl rfl) ?_
          refine jl_y rfl (by decide) rfl (y_move rfl) ?_
          refine jl_skip rfl (by decide) rfl ?_
          refine jl_skip rfl (by decide) rfl ?_
          refine jl_y rfl (by decide) rfl (y_pick_false rfl rfl) ?_
          refine jl_y rfl (by decide) rfl (y_move rfl) ?_
          refine jl_skip rfl (by decide) rfl ?_
          refine jl_skip rfl (by decide) rfl ?_
          refine jl_y rfl (by decide) rfl (y_pick_false rfl rfl) ?_
          refine jl_y rfl (by decide) rfl (y_move rfl) ?_
          refine jl_skip rfl (by decide) rfl ?_
          refine jl_y rfl (by decide) rfl (y_pick_false rfl rfl) ?_
          refine jl_y rfl (by decide) rfl (y_move rfl) ?_
          refine jl_skip rfl (by decide) rfl ?_
          refine jl_skip rfl (by decide) rfl ?_
          refine jl_y rfl (by decide) rfl (y_pick_false rfl rfl) ?_
          refine jl_y rfl (by decide) rfl (y_move rfl) ?_
          refine jl_skip rfl (by decide) rfl ?_
          refine jl_skip rfl (by decide) rfl ?_
          refine jl_y rfl (by decide) rfl (y_pick_false rfl rfl) ?_
          refine jl_y rfl (by decide) rfl (y_move rfl) ?_
          refine jl_skip rfl (by decide) rfl ?_
          refine jl_skip rfl (by decide) rfl ?_
          refine jl_y rfl (by decide) rfl (y_pick_false rfl rfl) ?_
          refine jl_y rfl (by decide) rfl (y_move rfl) ?_
          refine jl_skip rfl (by decide) rfl ?_
          refine jl_skip rfl (by decide) rfl ?_
          refine jl_y rfl (by decide) rfl (y_pick_false rfl rfl) ?_
          refine jl_y rfl (by decide) rfl (y_move rfl) ?_
          refine jl_skip rfl (by decide) rfl ?_
          refine jl_skip rfl (by decide) rfl ?_
          refine jl_y rfl (by decide) rfl (y_pick_false rfl rfl) ?_
          refine jl_y rfl (by decide) rfl (y_move rfl) ?_
          refine jl_skip rfl (by decide) rfl ?_
          refine jl_skip rfl (by decide) rfl ?_
          refine jl_y rfl (by decide) rfl (y_pick_false rfl rfl) ?_
          refine jl_y rfl (by decide) rfl (y_move rfl) ?_
          refine jl_skip rfl (by decide) rfl ?_
          refine jl_skip rfl (by decide) rfl ?_
          refine jl_y rfl (by decide) rfl (y_pick_false rfl rfl) ?_
          refine jl_y rfl (by decide) rfl (y_move rfl) ?_
          refine jl_skip rfl (by decide) rfl ?_
          refine jl_skip rfl (by decide) rfl ?_
          refine jl_y rfl (by decide) rfl (y_pick_false rfl rfl) ?_
          refine jl_y rfl (by decide) rfl (y_move rfl) ?_
          refine jl_skip rfl (by decide) rfl ?_
          refine jl_skip rfl (by decide) rfl ?_
          refine jl_skip rfl (by decide) rfl ?_
          refine jl_y rfl (by decide) rfl (y_pick_false rfl rfl) ?_
          refine jl_y rfl (by decide) rfl (y_move rfl) ?_
          refine jl_skip rfl (by decide) rfl ?_
          refine jl_skip rfl (by decide) rfl ?_
          refine jl_y rfl (by decide) rfl (y_pick_false rfl rfl) ?_
          refine jl_y rfl (by decide) rfl (y_assign rfl) ?_
          refine jl_nil ?_
          refine jq_then ?_
          refine jc_ret ?_
          refine jq_ret1 rfl rfl ?_
          exact fun _ hw => ⟨rfl, hw.ch⟩
          )
      )
  · first
    | (exfalso; omega)
    | (
      refine jl_y rfl (by decide) rfl (y_move rfl) ?_
      refine jl_skip rfl (by decide) rfl ?_
      refine jl_skip rfl (by decide) rfl ?_
      refine jl_y rfl (by decide) rfl (y_pick_false rfl rfl) ?_
      refine jl_y rfl (by decide) rfl (y_move rfl) ?_
      refine jl_skip rfl (by decide) rfl ?_
      refine jl_skip rfl (by decide) rfl ?_
      refine jl_y rfl (by decide) rfl (y_pick_false rfl rfl) ?_
      refine jl_y rfl (by decide) rfl (y_move rfl) ?_
      refine jl_skip rfl (by decide) rfl ?_
      refine jl_skip rfl (by decide) rfl ?_
      refine jl_y rfl (by decide) rfl (y_pick_false rfl rfl) ?_
      refine jl_y rfl (by decide) rfl (y_move rfl) ?_
      refine jl_skip rfl (by decide) rfl ?_
      refine jl_skip rfl (by decide) rfl ?_
      refine jl_y rfl (by decide) rfl (y_pick_false rfl rfl) ?_
      refine jl_y rfl (by decide) rfl (y_move rfl) ?_
      refine jl_skip rfl (by decide) rfl ?_
      refine jl_skip rfl (by decide) rfl ?_
      refine jl_y rfl (by decide) rfl (y_pick_false rfl rfl) ?_
      refine jl_y rfl (by decide) rfl (y_move rfl) ?_
      refine jl_skip rfl (by decide) rfl ?_
      refine jl_skip rfl (by decide) rfl ?_
      refine jl_y rfl (by decide) rfl (y_pick_false rfl rfl) ?_
      refine jl_y rfl (by decide) rfl (y_move rfl) ?_
      refine jl_skip rfl (by decide) rfl ?_
      refine jl_skip rfl (by decide) rfl ?_
      refine jl_y rfl (by decide) rfl (y_pick_false rfl rfl) ?_
      refine jl_y rfl (by decide) rfl (y_move rfl) ?_
      refine jl_skip rfl (by decide) rfl ?_
      refine jl_y rfl (by decide) rfl (y_pick_false rfl rfl) ?_
      refine jl_y rfl (by decide) rfl (y_move rfl) ?_
      refine jl_skip rfl (by decide) rfl ?_
      refine jl_skip rfl (by decide) rfl ?_
      refine jl_y rfl (by decide) rfl (y_pick_false rfl rfl) ?_
      refine jl_y rfl (by decide) rfl (y_move rfl) ?_
      refine jl_skip rfl (by decide) rfl ?_
      refine jl_skip rfl (by decide) rfl ?_
      refine jl_y rfl (by decide) rfl (y_pick_false rfl rfl) ?_
      refine jl_y rfl (by decide) rfl (y_move rfl) ?_
      refine jl_skip rfl (by decide) rfl ?_
      refine jl_skip rfl (by decide) rfl ?_
      refine jl_y rfl (by decide) rfl (y_pick_false rfl rfl) ?_
      refine jl_y rfl (by decide) rfl (y_move rfl) ?_
      refine jl_skip rfl (by decide) rfl ?_
      refine jl_skip rfl (by decide) rfl ?_
      refine jl_y rfl (by decide) rfl (y_pick_false rfl rfl) ?_
      refine jl_y rfl (by decide) rfl (y_move rfl) ?_
      refine jl_skip rfl (by decide) rfl ?_
      refine jl_skip rfl (by decide) rfl ?_
      refine jl_y rfl (by decide) rfl (y_pick_false rfl rfl) ?_
      refine jl_y rfl (by decide) rfl (y_move rfl) ?_
      refine jl_skip rfl (by decide) rfl ?_
      refine jl_skip rfl (by decide) rfl ?_
      refine jl_y rfl (by decide) rfl (y_pick_false rfl rfl) ?_
      refine jl_y rfl (by decide) rfl (y_move rfl) ?_
      refine jl_skip rfl (by decide) rfl ?_
      refine jl_skip rfl (by decide) rfl ?_
      refine jl_y rfl (by decide) rfl (y_pick_false rfl rfl) ?_
      refine jl_y rfl (by decide) rfl (y_move rfl) ?_
      refine jl_skip rfl (by decide) rfl ?_
      refine jl_skip rfl (by decide) rfl ?_
      refine jl_y rfl (by decide) rfl (y_pick_false rfl rfl) ?_
      refine jl_y rfl (by decide) rfl (y_move rfl) ?_
      refine jl_skip rfl (by decide) rfl ?_
      refine jl_skip rfl (by decide) rfl ?_
      refine jl_skip rfl (by decide) rfl ?_
      refine jl_y rfl (by decide) rfl (y_pick_false rfl rfl) ?_
      refine jl_y rfl (by decide) rfl (y_move rfl) ?_
      refine jl_skip rfl (by decide) rfl ?_
      refine jl_skip rfl (by decide) rfl ?_
      refine jl_y rfl (by decide) rfl (y_pick_false rfl rfl) ?_
      refine jl_y rfl (by decide) rfl (y_assign rfl) ?_
      refine jl_nil ?_
      refine jq_then ?_
      refine jc_ret ?_
      refine jq_ret1 rfl rfl ?_
      exact fun _ hw => ⟨rfl, hw.ch⟩
      )

theorem drawTells_any (a0 a1 b0 b1 ws : Int) (w : World) (ha0 : fits .u64 a0) (ha1 : fits .u64 a1) (hb0 : fits .u64 b0) (hb1 : fits .u64 b1) (hws : fits .u64 ws) :
    Calls Try.prog 3 #[.agg #[.int .u64 a0, .int .u64 a1], .agg #[.int .u64 b0, .int .u64 b1], .int .u64 ws] w fun e w' => e = .returned (.bool true) ∧ Ch [] w w' := by
  simp only [fits] at *
  refine calls_of (n := 132) (E := [(0, .agg #[.int .u64 a0, .int .u64 a1]), (1, .agg #[.int .u64 b0, .int .u64 b1]), (2, .int .u64 ws)]) (W := Hp w [] []) Try.func3 rfl rfl (Nat.le_of_ble_eq_true rfl) rfl (Hp.nil _ _) ?_
  refine jc_seq ?_
  -- region 0
  refine jc_region ?_
  refine jl_m rfl (by decide) rfl (m_box rfl rfl) (fun ba => ?_)
  refine jl_m rfl (by decide) rfl (m_box rfl rfl) (fun bb => ?_)
  refine jl_y rfl (by decide) rfl (y_assign rfl) ?_
  refine jl_nil ?_
  refine jq_then ?_
  refine jc_seq ?_
  -- region 1
  refine jc_region ?_
  refine jl_y rfl (by decide) rfl (y_indexAddr_arr rfl rfl (by omega) (by omega) (by simp only [Int.toNat_natCast, Int.reduceSub, Int.reduceAdd, Int.reduceToNat, Nat.reduceMul, Nat.reduceAdd, Nat.zero_add, Nat.mul_one, Nat.zero_mul, Nat.add_zero]; exact rfl)) ?_
  first | refine jl_y rfl (by decide) rfl (y_load rfl (by first | exact mem0 | exact mem1 | exact mem2 | exact mem3 | exact mem4 | exact mem5) rfl) ?_ | refine jl_y rfl (by decide) rfl (y_load_row rfl (by first | exact mem0 | exact mem1 | exact mem2 | exact mem3 | exact mem4 | exact mem5) rfl) ?_ | refine jl_y rfl (by decide) rfl (y_load_old rfl (by assumption) (by simp)) ?_
  refine jl_pcall rfl (by decide) rfl (goes_func rfl) (fun w1 hw1 => pcall hw1 (top_any _ w1 (by simp only [fits] at *; omega))) ?_
  refine jl_y rfl (by decide) rfl (y_move rfl) ?_
  refine jl_y rfl (by decide) rfl (y_extract rfl rfl) ?_
  refine jl_y rfl (by decide) rfl (y_extract rfl rfl) ?_
  refine jl_y rfl (by decide) rfl (y_assign rfl) ?_
  refine jl_y rfl (by decide) rfl (y_assign rfl) ?_
  refine jl_nil ?_
  refine jq_then ?_
  refine jc_seq ?_
  -- region 2
  refine jc_region ?_
  refine jl_y rfl (by decide) rfl (y_indexAddr_arr rfl rfl (by omega) (by omega) (by simp only [Int.toNat_natCast, Int.reduceSub, Int.reduceAdd, Int.reduceToNat, Nat.reduceMul, Nat.reduceAdd, Nat.zero_add, Nat.mul_one, Nat.zero_mul, Nat.add_zero]; exact rfl)) ?_
  first | refine jl_y rfl (by decide) rfl (y_load rfl (by first | exact mem0 | exact mem1 | exact mem2 | exact mem3 | exact mem4 | exact mem5) rfl) ?_ | refine jl_y rfl (by decide) rfl (y_load_row rfl (by first | exact mem0 | exact mem1 | exact mem2 | exact mem3 | exact mem4 | exact mem5) rfl) ?_ | refine jl_y rfl (by decide) rfl (y_load_old rfl (by assumption) (by simp)) ?_
  refine jl_pcall rfl (by decide) rfl (goes_func rfl) (fun w1 hw1 => pcall hw1 (rtop5_any _ w1 (by simp only [fits] at *; omega))) ?_
  refine jl_y rfl (by decide) rfl (y_move rfl) ?_
  refine jl_y rfl (by decide) rfl (y_extract rfl rfl) ?_
  refine jl_y rfl (by decide) rfl (y_extract rfl rfl) ?_
  refine jl_y rfl (by decide) rfl (y_assign rfl) ?_
  refine jl_y rfl (by decide) rfl (y_assign rfl) ?_
  refine jl_nil ?_
  refine jq_then ?_
  refine jc_seq ?_
  -- region 3
  refine jc_region ?_
  refine jl_y rfl (by decide) rfl (y_indexAddr_arr rfl rfl (by omega) (by omega) (by simp only [Int.toNat_natCast, Int.reduceSub, Int.reduceAdd, Int.reduceToNat, Nat.reduceMul, Nat.reduceAdd, Nat.zero_add, Nat.mul_one, Nat.zero_mul, Nat.add_zero]; exact rfl)) ?_
  first | refine jl_y rfl (by decide) rfl (y_load rfl (by first | exact mem0 | exact mem1 | exact mem2 | exact mem3 | exact mem4 | exact mem5) rfl) ?_ | refine jl_y rfl (by decide) rfl (y_load_row rfl (by first | exact mem0 | exact mem1 | exact mem2 | exact mem3 | exact mem4 | exact mem5) rfl) ?_ | refine jl_y rfl (by decide) rfl (y_load_old rfl (by assumption) (by simp)) ?_
  refine jl_y rfl (by decide) rfl (y_indexAddr_arr rfl rfl (by omega) (by omega) (by simp only [Int.toNat_natCast, Int.reduceSub, Int.reduceAdd, Int.reduceToNat, Nat.reduceMul, Nat.reduceAdd, Nat.zero_add, Nat.mul_one, Nat.zero_mul, Nat.add_zero]; exact rfl)) ?_
  first | refine jl_y rfl (by decide) rfl (y_load rfl (by first | exact mem0 | exact mem1 | exact mem2 | exact mem3 | exact mem4 | exact mem5) rfl) ?_ | refine jl_y rfl (by decide) rfl (y_load_row rfl (by first | exact mem0 | exact mem1 | exact mem2 | exact mem3 | exact mem4 | exact mem5) rfl) ?_ | refine jl_y rfl (by decide) rfl (y_load_old rfl (by assumption) (by simp)) ?_
  refine jl_pcall rfl (by decide) rfl (goes_func rfl) (fun w1 hw1 => pcall hw1 (fair_any _ _ w1 (by simp only [fits] at *; omega) (by simp only [fits] at *; omega))) ?_
  refine jl_y rfl (by decide) rfl (y_move rfl) ?_
  refine jl_y rfl (by decide) rfl (y_extract rfl rfl) ?_
  refine jl_y rfl (by decide) rfl (y_extract rfl rfl) ?_
  refine jl_y rfl (by decide) rfl (y_assign rfl) ?_
  refine jl_y rfl (by decide) rfl (y_assign rfl) ?_
  refine jl_nil ?_
  refine jq_then ?_
  refine jc_seq ?_
  -- region 4
  refine jc_region ?_
  refine jl_y rfl (by decide) rfl (y_indexAddr_arr rfl rfl (by omega) (by omega) (by simp only [Int.toNat_natCast, Int.reduceSub, Int.reduceAdd, Int.reduceToNat, Nat.reduceMul, Nat.reduceAdd, Nat.zero_add, Nat.mul_one, Nat.zero_mul, Nat.add_zero]; exact rfl)) ?_
  first | refine jl_y rfl (by decide) rfl (y_load rfl (by first | exact mem0 | exact mem1 | exact mem2 | exact mem3 | exact mem4 | exact mem5) rfl) ?_ | refine jl_y rfl (by decide) rfl (y_load_row rfl (by first | exact mem0 | exact mem1 | exact mem2 | exact mem3 | exact mem4 | exact mem5) rfl) ?_ | refine jl_y rfl (by decide) rfl (y_load_old rfl (by assumption) (by simp)) ?_
  refine jl_y rfl (by decide) rfl (y_indexAddr_arr rfl rfl (by omega) (by omega) (by simp only [Int.toNat_natCast, Int.reduceSub, Int.reduceAdd, Int.reduceToNat, Nat.reduceMul, Nat.reduceAdd, Nat.zero_add, Nat.mul_one, Nat.zero_mul, Nat.add_zero]; exact rfl)) ?_
  first | refine jl_y rfl (by decide) rfl (y_load rfl (by first | exact mem0 | exact mem1 | exact mem2 | exact mem3 | exact mem4 | exact mem5) rfl) ?_ | refine jl_y rfl (by decide) rfl (y_load_row rfl (by first | exact mem0 | exact mem1 | exact mem2 | exact mem3 | exact mem4 | exact mem5) rfl) ?_ | refine jl_y rfl (by decide) rfl (y_load_old rfl (by assumption) (by simp)) ?_
  refine jl_pcall rfl (by decide) rfl (goes_func rfl) (fun w1 hw1 => pcall hw1 (rfair_any _ _ w1 (by simp only [fits] at *; omega) (by simp only [fits] at *; omega))) ?_
  refine jl_y rfl (by decide) rfl (y_move rfl) ?_
  refine jl_y rfl (by decide) rfl (y_extract rfl rfl) ?_
  refine jl_y rfl (by decide) rfl (y_extract rfl rfl) ?_
  refine jl_y rfl (by decide) rfl (y_assign rfl) ?_
  refine jl_y rfl (by decide) rfl (y_assign rfl) ?_
  refine jl_nil ?_
  refine jq_then ?_
  refine jc_seq ?_
  -- region 5
  refine jc_region ?_
  refine jl_y rfl (by decide) rfl (y_indexAddr_arr rfl rfl (by omega) (by omega) (by simp only [Int.toNat_natCast, Int.reduceSub, Int.reduceAdd, Int.reduceToNat, Nat.reduceMul, Nat.reduceAdd, Nat.zero_add, Nat.mul_one, Nat.zero_mul, Nat.add_zero]; exact rfl)) ?_
  first | refine jl_y rfl (by decide) rfl (y_load rfl (by first | exact mem0 | exact mem1 | exact mem2 | exact mem3 | exact mem4 | exact mem5) rfl) ?_ | refine jl_y rfl (by decide) rfl (y_load_row rfl (by first | exact mem0 | exact mem1 | exact mem2 | exact mem3 | exact mem4 | exact mem5) rfl) ?_ | refine jl_y rfl (by decide) rfl (y_load_old rfl (by assumption) (by simp)) ?_
  refine jl_y rfl (by decide) rfl (y_indexAddr_arr rfl rfl (by omega) (by omega) (by simp only [Int.toNat_natCast, Int.reduceSub, Int.reduceAdd, Int.reduceToNat, Nat.reduceMul, Nat.reduceAdd, Nat.zero_add, Nat.mul_one, Nat.zero_mul, Nat.add_zero]; exact rfl)) ?_
  first | refine jl_y rfl (by decide) rfl (y_load rfl (by first | exact mem0 | exact mem1 | exact mem2 | exact mem3 | exact mem4 | exact mem5) rfl) ?_ | refine jl_y rfl (by decide) rfl (y_load_row rfl (by first | exact mem0 | exact mem1 | exact mem2 | exact mem3 | exact mem4 | exact mem5) rfl) ?_ | refine jl_y rfl (by decide) rfl (y_load_old rfl (by assumption) (by simp)) ?_
  refine jl_y rfl (by decide) rfl (y_move rfl) ?_
  refine jl_y rfl (by decide) rfl (y_indexAddr_arr rfl rfl (by omega) (by omega) (by simp only [Int.toNat_natCast, Int.reduceSub, Int.reduceAdd, Int.reduceToNat, Nat.reduceMul, Nat.reduceAdd, Nat.zero_add, Nat.mul_one, Nat.zero_mul, Nat.add_zero]; exact rfl)) ?_
  first | refine jl_y rfl (by decide) rfl (y_load rfl (by first | exact mem0 | exact mem1 | exact mem2 | exact mem3 | exact mem4 | exact mem5) rfl) ?_ | refine jl_y rfl (by decide) rfl (y_load_row rfl (by first | exact mem0 | exact mem1 | exact mem2 | exact mem3 | exact mem4 | exact mem5) rfl) ?_ | refine jl_y rfl (by decide) rfl (y_load_old rfl (by assumption) (by simp)) ?_
  refine jl_pcall rfl (by decide) rfl (goes_func rfl) (fun w1 hw1 => pcall hw1 (wins_any _ _ _ _ w1 (by simp only [fits] at *; omega) (by simp only [fits] at *; omega) (by simp only [fits] at *; omega) (by simp only [fits] at *; omega))) ?_
  refine jl_y rfl (by decide) rfl (y_move rfl) ?_
  refine jl_y rfl (by decide) rfl (y_extract rfl rfl) ?_
  refine jl_y rfl (by decide) rfl (y_extract rfl rfl) ?_
  refine jl_y rfl (by decide) rfl (y_assign rfl) ?_
  refine jl_y rfl (by decide) rfl (y_assign rfl) ?_
  refine jl_nil ?_
  refine jq_then ?_
  refine jc_seq ?_
  -- region 6
  refine jc_region ?_
  refine jl_y rfl (by decide) rfl (y_indexAddr_arr rfl rfl (by omega) (by omega) (by simp only [Int.toNat_natCast, Int.reduceSub, Int.reduceAdd, Int.reduceToNat, Nat.reduceMul, Nat.reduceAdd, Nat.zero_add, Nat.mul_one, Nat.zero_mul, Nat.add_zero]; exact rfl)) ?_
  first | refine jl_y rfl (by decide) rfl (y_load rfl (by first | exact mem0 | exact mem1 | exact mem2 | exact mem3 | exact mem4 | exact mem5) rfl) ?_ | refine jl_y rfl (by decide) rfl (y_load_row rfl (by first | exact mem0 | exact mem1 | exact mem2 | exact mem3 | exact mem4 | exact mem5) rfl) ?_ | refine jl_y rfl (by decide) rfl (y_load_old rfl (by assumption) (by simp)) ?_
  refine jl_y rfl (by decide) rfl (y_indexAddr_arr rfl rfl (by omega) (by omega) (by simp only [Int.toNat_natCast, Int.reduceSub, Int.reduceAdd, Int.reduceToNat, Nat.reduceMul, Nat.reduceAdd, Nat.zero_add, Nat.mul_one, Nat.zero_mul, Nat.add_zero]; exact rfl)) ?_
  first | refine jl_y rfl (by decide) rfl (y_load rfl (by first | exact mem0 | exact mem1 | exact mem2 | exact mem3 | exact mem4 | exact mem5) rfl) ?_ | refine jl_y rfl (by decide) rfl (y_load_row rfl (by first | exact mem0 | exact mem1 | exact mem2 | exact mem3 | exact mem4 | exact mem5) rfl) ?_ | refine jl_y rfl (by decide) rfl (y_load_old rfl (by assumption) (by simp)) ?_
  refine jl_y rfl (by decide) rfl (y_move rfl) ?_
  refine jl_y rfl (by decide) rfl (y_indexAddr_arr rfl rfl (by omega) (by omega) (by simp only [Int.toNat_natCast, Int.reduceSub, Int.reduceAdd, Int.reduceToNat, Nat.reduceMul, Nat.reduceAdd, Nat.zero_add, Nat.mul_one, Nat.zero_mul, Nat.add_zero]; exact rfl)) ?_
  first | refine jl_y rfl (by decide) rfl (y_load rfl (by first | exact mem0 | exact mem1 | exact mem2 | exact mem3 | exact mem4 | exact mem5) rfl) ?_ | refine jl_y rfl (by decide) rfl (y_load_row rfl (by first | exact mem0 | exact mem1 | exact mem2 | exact mem3 | exact mem4 | exact mem5) rfl) ?_ | refine jl_y rfl (by decide) rfl (y_load_old rfl (by assumption) (by simp)) ?_
  refine jl_pcall rfl (by decide) rfl (goes_func rfl) (fun w1 hw1 => pcall hw1 (rwins_any _ _ _ _ w1 (by simp only [fits] at *; omega) (by simp only [fits] at *; omega) (by simp only [fits] at *; omega) (by simp only [fits] at *; omega))) ?_
  refine jl_y rfl (by decide) rfl (y_move rfl) ?_
  refine jl_y rfl (by decide) rfl (y_extract rfl rfl) ?_
  refine jl_y rfl (by decide) rfl (y_extract rfl rfl) ?_
  refine jl_y rfl (by decide) rfl (y_assign rfl) ?_
  refine jl_y rfl (by decide) rfl (y_assign rfl) ?_
  refine jl_nil ?_
  refine jq_then ?_
  refine jc_seq ?_
  -- region 7
  refine jc_region ?_
  refine jl_y rfl (by decide) rfl (y_indexAddr_arr rfl rfl (by omega) (by omega) (by simp only [Int.toNat_natCast, Int.reduceSub, Int.reduceAdd, Int.reduceToNat, Nat.reduceMul, Nat.reduceAdd, Nat.zero_add, Nat.mul_one, Nat.zero_mul, Nat.add_zero]; exact rfl)) ?_
  first | refine jl_y rfl (by decide) rfl (y_load rfl (by first | exact mem0 | exact mem1 | exact mem2 | exact mem3 | exact mem4 | exact mem5) rfl) ?_ | refine jl_y rfl (by decide) rfl (y_load_row rfl (by first | exact mem0 | exact mem1 | exact mem2 | exact mem3 | exact mem4 | exact mem5) rfl) ?_ | refine jl_y rfl (by decide) rfl (y_load_old rfl (by assumption) (by simp)) ?_
  refine jl_y rfl (by decide) rfl (y_move rfl) ?_
  refine jl_y rfl (by decide) rfl (y_indexAddr_arr rfl rfl (by omega) (by omega) (by simp only [Int.toNat_natCast, Int.reduceSub, Int.reduceAdd, Int.reduceToNat, Nat.reduceMul, Nat.reduceAdd, Nat.zero_add, Nat.mul_one, Nat.zero_mul, Nat.add_zero]; exact rfl)) ?_
  first | refine jl_y rfl (by decide) rfl (y_load rfl (by first | exact mem0 | exact mem1 | exact mem2 | exact mem3 | exact mem4 | exact mem5) rfl) ?_ | refine jl_y rfl (by decide) rfl (y_load_row rfl (by first | exact mem0 | exact mem1 | exact mem2 | exact mem3 | exact mem4 | exact mem5) rfl) ?_ | refine jl_y rfl (by decide) rfl (y_load_old rfl (by assumption) (by simp)) ?_
  refine jl_pcall rfl (by decide) rfl (goes_func rfl) (fun w1 hw1 => pcall hw1 (nominal_any _ _ _ w1 (by simp only [fits] at *; omega) (by simp only [fits] at *; omega) (by simp only [fits] at *; omega))) ?_
  refine jl_y rfl (by decide) rfl (y_move rfl) ?_
  refine jl_y rfl (by decide) rfl (y_extract rfl rfl) ?_
  refine jl_y rfl (by decide) rfl (y_extract rfl rfl) ?_
  refine jl_y rfl (by decide) rfl (y_assign rfl) ?_
  refine jl_y rfl (by decide) rfl (y_assign rfl) ?_
  refine jl_nil ?_
  refine jq_then ?_
  refine jc_seq ?_
  -- region 8
  refine jc_region ?_
  refine jl_y rfl (by decide) rfl (y_indexAddr_arr rfl rfl (by omega) (by omega) (by simp only [Int.toNat_natCast, Int.reduceSub, Int.reduceAdd, Int.reduceToNat, Nat.reduceMul, Nat.reduceAdd, Nat.zero_add, Nat.mul_one, Nat.zero_mul, Nat.add_zero]; exact rfl)) ?_
  first | refine jl_y rfl (by decide) rfl (y_load rfl (by first | exact mem0 | exact mem1 | exact mem2 | exact mem3 | exact mem4 | exact mem5) rfl) ?_ | refine jl_y rfl (by decide) rfl (y_load_row rfl (by first | exact mem0 | exact mem1 | exact mem2 | exact mem3 | exact mem4 | exact mem5) rfl) ?_ | refine jl_y rfl (by decide) rfl (y_load_old rfl (by assumption) (by simp)) ?_
  refine jl_y rfl (by decide) rfl (y_move rfl) ?_
  refine jl_y rfl (by decide) rfl (y_indexAddr_arr rfl rfl (by omega) (by omega) (by simp only [Int.toNat_natCast, Int.reduceSub, Int.reduceAdd, Int.reduceToNat, Nat.reduceMul, Nat.reduceAdd, Nat.zero_add, Nat.mul_one, Nat.zero_mul, Nat.add_zero]; exact rfl)) ?_
  first | refine jl_y rfl (by decide) rfl (y_load rfl (by first | exact mem0 | exact mem1 | exact mem2 | exact mem3 | exact mem4 | exact mem5) rfl) ?_ | refine jl_y rfl (by decide) rfl (y_load_row rfl (by first | exact mem0 | exact mem1 | exact mem2 | exact mem3 | exact mem4 | exact mem5) rfl) ?_ | refine jl_y rfl (by decide) rfl (y_load_old rfl (by assumption) (by simp)) ?_
  refine jl_pcall rfl (by decide) rfl (goes_func rfl) (fun w1 hw1 => pcall hw1 (rnominal_any _ _ _ w1 (by simp only [fits] at *; omega) (by simp only [fits] at *; omega) (by simp only [fits] at *; omega))) ?_
  refine jl_y rfl (by decide) rfl (y_move rfl) ?_
  refine jl_y rfl (by decide) rfl (y_extract rfl rfl) ?_
  refine jl_y rfl (by decide) rfl (y_extract rfl rfl) ?_
  refine jl_y rfl (by decide) rfl (y_assign rfl) ?_
  refine jl_y rfl (by decide) rfl (y_assign rfl) ?_
  refine jl_nil ?_
  refine jq_then ?_
  refine jc_seq ?_
  -- region 9
  refine jc_region ?_
  refine jl_y rfl (by decide) rfl (y_move rfl) ?_
  refine jl_y rfl (by decide) rfl (y_move rfl) ?_
  refine jl_y rfl (by decide) rfl (y_eql rfl rfl) ?_
  refine jl_prop (fun h93 => ?_) (fun h93 => ?_)
  · first
    | (exfalso; omega)
    | (
      refine jl_y rfl (by decide) rfl (y_move rfl) ?_
      refine jl_y rfl (by decide) rfl (y_move rfl) ?_
      refine jl_y rfl (by decide) rfl (y_move rfl) ?_
      refine jl_y rfl (by decide) rfl (y_eql rfl rfl) ?_
      refine jl_prop (fun h97 => ?_) (fun h97 => ?_)
      · first
        | (exfalso; omega)
        | (
          refine jl_y rfl (by decide) rfl (y_pick_true rfl rfl) ?_
          refine jl_y rfl (by decide) rfl (y_move rfl) ?_
          refine jl_y rfl (by decide) rfl (y_move rfl) ?_
          refine jl_y rfl (by decide) rfl (y_move rfl) ?_
          refine jl_y rfl (by decide) rfl (y_eql rfl rfl) ?_
          refine jl_prop (fun h102 => ?_) (fun h102 => ?_)
          · first
            | (exfalso; omega)
            | (
              refine jl_y rfl (by decide) rfl (y_pick_true rfl rfl) ?_
              refine jl_y rfl (by decide) rfl (y_move rfl) ?_
              refine jl_y rfl (by decide) rfl (y_move rfl) ?_
              refine jl_y rfl (by decide) rfl (y_move rfl) ?_
              refine jl_y rfl (by decide) rfl (y_eql rfl rfl) ?_
              refine jl_prop (fun h107 => ?_) (fun h107 => ?_)
              · first
                | (exfalso; omega)
                | (
                  refine jl_y rfl (by decide) rfl (y_pick_true rfl rfl) ?_
                  refine jl_y rfl (by decide) rfl (y_move rfl) ?_
                  refine jl_y rfl (by decide) rfl (y_move rfl) ?_
                  refine jl_y rfl (by decide) rfl (y_move rfl) ?_
                  refine jl_y rfl (by decide) rfl (y_eql_bool rfl rfl) ?_
                  refine jl_as (u := .bool true) (congrArg Value.bool (by simp)) ?_
                  refine jl_y rfl (by decide) rfl (y_pick_true rfl rfl) ?_
                  refine jl_y rfl (by decide) rfl (y_move rfl) ?_
                  refine jl_y rfl (by decide) rfl (y_move rfl) ?_
                  refine jl_y rfl (by decide) rfl (y_move rfl) ?_
                  refine jl_y rfl (by decide) rfl (y_eql rfl rfl) ?_
                  refine jl_prop (fun h117 => ?_) (fun h117 => ?_)
                  · first
                    | (exfalso; omega)
                    | (
                      refine jl_y rfl (by decide) rfl (y_pick_true rfl rfl) ?_
                      refine jl_y rfl (by decide) rfl (y_move rfl) ?_
                      refine jl_y rfl (by decide) rfl (y_move rfl) ?_
                      refine jl_y rfl (by decide) rfl (y_move rfl) ?_
                      refine jl_y rfl (by decide) rfl (y_eql rfl rfl) ?_
                      refine jl_prop (fun h122 => ?_) (fun h122 => ?_)
                      · first
                        | (exfalso; omega)
                        | (
                          refine jl_y rfl (by decide) rfl (y_pick_true rfl rfl) ?_
                          refine jl_y rfl (by decide) rfl (y_move rfl) ?_
                          refine jl_y rfl (by decide) rfl (y_move rfl) ?_
                          refine jl_y rfl (by decide) rfl (y_move rfl) ?_
                          refine jl_y rfl (by decide) rfl (y_eql rfl rfl) ?_
                          refine jl_prop (fun h127 => ?_) (fun h127 => ?_)
                          · first
                            | (exfalso; omega)
                            | (
                              refine jl_y rfl (by decide) rfl (y_pick_true rfl rfl) ?_
                              refine jl_y rfl (by decide) rfl (y_move rfl) ?_
                              refine jl_pcall rfl (by decide) rfl (goes_func rfl) (fun w1 hw1 => pcall hw1 (fixed5_any w1)) ?_
                              refine jl_y rfl (by decide) rfl (y_pick_true rfl rfl) ?_
                              refine jl_y rfl (by decide) rfl (y_assign rfl) ?_
                              refine jl_nil ?_
                              refine jq_then ?_
                              refine jc_ret ?_
                              refine jq_ret1 rfl rfl ?_
                              exact fun _ hw => ⟨rfl, hw.ch⟩
                              )
                          · exact absurd rfl h127
                          )
                      · exact absurd rfl h122
                      )
                  · exact absurd rfl h117
                  )
              · exact absurd rfl h107
              )
          · exact absurd rfl h102
          )
      · exact absurd rfl h97
      )
  · exact absurd rfl h93

theorem drawHides_any (salt : ByteArray) (n : Int) (commit : ByteArray) (w : World) (hn : fits .u64 n) :
    Calls Try.prog 4 #[.string salt, .int .u64 n, .string commit] w fun e w' => e = .returned (.bool true) ∧ Ch [] w w' := by
  refine calls_of (n := 40) (E := [(0, .string salt), (1, .int .u64 n), (2, .string commit)]) (W := Hp w [] []) Try.func4 rfl rfl (Nat.le_of_ble_eq_true rfl) rfl (Hp.nil _ _) ?_
  refine jc_seq ?_
  -- region 0
  refine jc_region ?_
  refine jl_y rfl (by decide) rfl (y_assign rfl) ?_
  refine jl_nil ?_
  refine jq_then ?_
  refine jc_seq ?_
  -- region 1
  refine jc_region ?_
  refine jl_y rfl (by decide) rfl (y_move rfl) ?_
  refine jl_y rfl (by decide) rfl (y_move rfl) ?_
  refine jl_y rfl (by decide) rfl (y_len_str rfl) ?_
  refine jl_y rfl (by decide) rfl (y_min rfl rfl) ?_
  refine jl_y rfl (by decide) rfl (y_substr_hi rfl rfl (by omega) (by omega)) ?_
  refine jl_as (u := .string (cutS salt 300)) (congrArg Value.string (cut_eq salt 300)) ?_
  refine jl_y rfl (by decide) rfl (y_assign rfl) ?_
  refine jl_nil ?_
  refine jq_then ?_
  refine jc_seq ?_
  -- region 2
  have hcs := cutS_size salt 300
  refine jc_region ?_
  refine jl_y rfl (by decide) rfl (y_move rfl) ?_
  refine jl_y rfl (by decide) rfl (y_move rfl) ?_
  refine jl_pcall rfl (by decide) rfl (goes_func rfl) (fun w1 hw1 => pcall hw1 (commit_any _ _ w1 (by omega) hn)) ?_
  refine jl_y rfl (by decide) rfl (y_assign rfl) ?_
  refine jl_nil ?_
  refine jq_then ?_
  refine jc_seq ?_
  -- region 3
  refine jc_region ?_
  refine jl_y rfl (by decide) rfl (y_move rfl) ?_
  refine jl_y rfl (by decide) rfl (y_move rfl) ?_
  refine jl_y rfl (by decide) rfl (y_move rfl) ?_
  refine jl_pcall rfl (by decide) rfl (goes_func rfl) (fun w1 hw1 => pcall hw1 (rcommit_any _ _ w1 (by omega) hn)) ?_
  refine jl_y rfl (by decide) rfl (y_seql rfl rfl) ?_
  refine jl_as (u := .bool true) (congrArg (fun b => Value.bool b) (decide_eq_true (rfl))) ?_
  refine jl_y rfl (by decide) rfl (y_move rfl) ?_
  refine jl_y rfl (by decide) rfl (y_move rfl) ?_
  refine jl_y rfl (by decide) rfl (y_move rfl) ?_
  refine jl_y rfl (by decide) rfl (y_move rfl) ?_
  refine jl_pcall rfl (by decide) rfl (goes_func rfl) (fun w1 hw1 => pcall hw1 (opens_any _ _ _ w1 (by omega) hn)) ?_
  refine jl_as (u := .bool true) (congrArg Value.bool (decide_eq_true rfl)) ?_
  refine jl_y rfl (by decide) rfl (y_pick_true rfl rfl) ?_
  refine jl_y rfl (by decide) rfl (y_move rfl) ?_
  refine jl_y rfl (by decide) rfl (y_move rfl) ?_
  refine jl_y rfl (by decide) rfl (y_move rfl) ?_
  refine jl_y rfl (by decide) rfl (y_move rfl) ?_
  refine jl_pcall rfl (by decide) rfl (goes_func rfl) (fun w1 hw1 => pcall hw1 (opens_any _ _ _ w1 (by omega) hn)) ?_
  refine jl_y rfl (by decide) rfl (y_move rfl) ?_
  refine jl_y rfl (by decide) rfl (y_move rfl) ?_
  refine jl_y rfl (by decide) rfl (y_seql rfl rfl) ?_
  refine jl_y rfl (by decide) rfl (y_eql_bool rfl rfl) ?_
  refine jl_as (u := .bool true) (congrArg Value.bool (by simp)) ?_
  refine jl_y rfl (by decide) rfl (y_pick_true rfl rfl) ?_
  refine jl_y rfl (by decide) rfl (y_move rfl) ?_
  refine jl_pcall rfl (by decide) rfl (goes_func rfl) (fun w1 hw1 => pcall hw1 (fixed5_any w1)) ?_
  refine jl_y rfl (by decide) rfl (y_pick_true rfl rfl) ?_
  refine jl_y rfl (by decide) rfl (y_assign rfl) ?_
  refine jl_nil ?_
  refine jq_then ?_
  refine jc_ret ?_
  refine jq_ret1 rfl rfl ?_
  exact fun _ hw => ⟨rfl, hw.ch⟩

theorem drawFamily_any (client face x0 x1 : Int) (w : World) (hc : fits .u64 client) (hf : fits .u64 face) (hx0 : fits .u16 x0) (hx1 : fits .u16 x1) :
    Calls Try.prog 5 #[.int .u64 client, .int .u64 face, .agg #[.int .u16 x0, .int .u16 x1]] w fun e w' => e = .returned (.bool true) ∧ Ch [] w w' := by
  simp only [fits] at *
  obtain ⟨m, hm⟩ : ∃ m : Int, m = 1 + x1 % 300 := ⟨_, rfl⟩
  obtain ⟨ws, hws⟩ : ∃ ws : Int, ws = x0 % (m + 1) := ⟨_, rfl⟩
  have hm1 : 1 ≤ m ∧ m ≤ 300 := by omega
  have hw1 := Int.emod_nonneg x0 (show m + 1 ≠ 0 by omega)
  have hw2 := Int.emod_lt_of_pos x0 (show 0 < m + 1 by omega)
  rw [← hws] at hw1 hw2
  have hc1 := Int.emod_nonneg client (show m ≠ 0 by omega)
  have hc2 := Int.emod_lt_of_pos client (show 0 < m by omega)
  have hnr := @nomV_range face ws m (by omega) (by omega) (by omega)
  have hne := fun h => @nom_odd face ws m (by omega) h
  have hnp := fun h => @nom_pos face ws m (by omega) h
  refine calls_of (n := 118) (E := [(0, .int .u64 client), (1, .int .u64 face), (2, .agg #[.int .u16 x0, .int .u16 x1])]) (W := Hp w [] []) Try.func5 rfl rfl (Nat.le_of_ble_eq_true rfl) rfl (Hp.nil _ _) ?_
  refine jc_seq ?_
  -- region 0
  refine jc_region ?_
  refine jl_m rfl (by decide) rfl (m_box rfl rfl) (fun b5 => ?_)
  refine jl_y rfl (by decide) rfl (y_assign rfl) ?_
  refine jl_nil ?_
  refine jq_then ?_
  refine jc_seq ?_
  -- region 1
  refine jc_region ?_
  refine jl_y rfl (by decide) rfl (y_indexAddr_arr rfl rfl (by omega) (by omega) (by simp only [Int.toNat_natCast, Int.reduceSub, Int.reduceAdd, Int.reduceToNat, Nat.reduceMul, Nat.reduceAdd, Nat.zero_add, Nat.mul_one, Nat.zero_mul, Nat.add_zero]; exact rfl)) ?_
  first | refine jl_y rfl (by decide) rfl (y_load rfl (by first | exact mem0 | exact mem1 | exact mem2 | exact mem3 | exact mem4 | exact mem5) rfl) ?_ | refine jl_y rfl (by decide) rfl (y_load_row rfl (by first | exact mem0 | exact mem1 | exact mem2 | exact mem3 | exact mem4 | exact mem5) rfl) ?_ | refine jl_y rfl (by decide) rfl (y_load_old rfl (by assumption) (by simp)) ?_
  first | refine jl_y rfl (by decide) rfl (y_conv_fits rfl (by simp only [fits]; omega)) ?_ | refine jl_y rfl (by decide) rfl (y_conv_u64 rfl) ?_
  refine jl_y rfl (by decide) rfl (y_rem rfl rfl (by omega) (by omega)) ?_
  refine jl_y rfl (by decide) rfl (y_add_u64 rfl rfl) ?_
  refine jl_as (u := .int .u64 m) (congrArg _ (by omega)) ?_
  refine jl_y rfl (by decide) rfl (y_assign rfl) ?_
  refine jl_nil ?_
  refine jq_then ?_
  refine jc_seq ?_
  -- region 2
  refine jc_region ?_
  refine jl_y rfl (by decide) rfl (y_indexAddr_arr rfl rfl (by omega) (by omega) (by simp only [Int.toNat_natCast, Int.reduceSub, Int.reduceAdd, Int.reduceToNat, Nat.reduceMul, Nat.reduceAdd, Nat.zero_add, Nat.mul_one, Nat.zero_mul, Nat.add_zero]; exact rfl)) ?_
  first | refine jl_y rfl (by decide) rfl (y_load rfl (by first | exact mem0 | exact mem1 | exact mem2 | exact mem3 | exact mem4 | exact mem5) rfl) ?_ | refine jl_y rfl (by decide) rfl (y_load_row rfl (by first | exact mem0 | exact mem1 | exact mem2 | exact mem3 | exact mem4 | exact mem5) rfl) ?_ | refine jl_y rfl (by decide) rfl (y_load_old rfl (by assumption) (by simp)) ?_
  first | refine jl_y rfl (by decide) rfl (y_conv_fits rfl (by simp only [fits]; omega)) ?_ | refine jl_y rfl (by decide) rfl (y_conv_u64 rfl) ?_
  refine jl_y rfl (by decide) rfl (y_move rfl) ?_
  refine jl_y rfl (by decide) rfl (y_add_u64 rfl rfl) ?_
  refine jl_y rfl (by decide) rfl (y_rem rfl rfl (by omega) (by omega)) ?_
  refine jl_as (u := .int .u64 ws) (congrArg _ (by rw [hws]; congr 1; omega)) ?_
  refine jl_y rfl (by decide) rfl (y_assign rfl) ?_
  refine jl_nil ?_
  refine jq_then ?_
  refine jc_seq ?_
  -- region 3
  refine jc_region ?_
  refine jl_y rfl (by decide) rfl (y_assign rfl) ?_
  refine jl_nil ?_
  refine jq_then ?_
  refine jc_seq ?_
  refine jc_seq ?_
  -- region 4
  refine jc_region ?_
  refine jl_y rfl (by decide) rfl (y_assign rfl) ?_
  refine jl_nil ?_
  refine jq_then ?_
  refine jc_block ?_
  -- a loop
  refine jc_loop (fun (r : Nat) => [(0, .int .u64 client), (1, .int .u64 face), (7, .int .u64 m), (8, .int .u64 ws), (9, .int .u64 (cntW (client % m) ws m r)), (10, .int .u64 (r : Nat))]) (fun (r : Nat) => fun w' => (r : Int) ≤ m ∧ Hp w [] [] w') (fun (r : Nat) => m.toNat - r) 0 ?_ ?_ ?_
  · exact ⟨rfl, rfl, rfl, rfl, rfl, rfl, trivial⟩
  · exact fun _ h => ⟨by omega, h.part .nil⟩
  · intro r
    refine jc_and (fun hr => ?_)
    refine jc_seq ?_
    refine jc_seq ?_
    -- region 5
    refine jc_region ?_
    refine jl_y rfl (by decide) rfl (y_move rfl) ?_
    refine jl_y rfl (by decide) rfl (y_move rfl) ?_
    refine jl_y rfl (by decide) rfl (y_lss rfl rfl) ?_
    refine jl_prop (fun h34 => ?_) (fun h34 => ?_)
    · first
      | (exfalso; omega)
      | (
        have hwp := @wins_pos r client ws m (by omega)
        have hcr := cntW_range (client % m) ws m r
        refine jl_nil ?_
        refine jq_then ?_
        refine jc_true rfl ?_
        refine jc_skip ?_
        refine jq_then ?_
        refine jc_seq ?_
        refine jc_block ?_
        refine jc_seq ?_
        -- region 7
        refine jc_region ?_
        refine jl_y rfl (by decide) rfl (y_move rfl) ?_
        refine jl_y rfl (by decide) rfl (y_move rfl) ?_
        refine jl_y rfl (by decide) rfl (y_move rfl) ?_
        refine jl_y rfl (by decide) rfl (y_move rfl) ?_
        refine jl_pcall rfl (by decide) rfl (goes_func rfl) (fun w1 hw1 => pcall hw1 (wins_any _ _ _ _ w1 (by simp only [fits] at *; omega) (by simp only [fits] at *; omega) (by simp only [fits] at *; omega) (by simp only [fits] at *; omega))) ?_
        refine jl_y rfl (by decide) rfl (y_move rfl) ?_
        refine jl_y rfl (by decide) rfl (y_extract rfl rfl) ?_
        refine jl_as (u := .bool (decide (((r : Int) + client % m) % m < ws))) (congrArg _ hwp.1) ?_
        refine jl_prop (fun h43 => ?_) (fun h43 => ?_)
        · skip
          refine jl_y rfl (by decide) rfl (y_extract rfl rfl) ?_
          refine jl_as (u := .int .i64 0) (congrArg _ hwp.2) ?_
          refine jl_y rfl (by decide) rfl (y_assign rfl) ?_
          refine jl_y rfl (by decide) rfl (y_assign rfl) ?_
          refine jl_nil ?_
          refine jq_then ?_
          refine jc_seq ?_
          refine jc_seq ?_
          -- region 8
          refine jc_region ?_
          refine jl_y rfl (by decide) rfl (y_move rfl) ?_
          refine jl_y rfl (by decide) rfl (y_neq rfl rfl) ?_
          refine jl_prop (fun h46 => ?_) (fun h46 => ?_)
          · first
            | (exfalso; omega)
            | (
              refine jl_nil ?_
              refine jq_then ?_
              refine jc_true rfl ?_
              refine jc_seq ?_
              -- region 9
              refine jc_region ?_
              refine jl_y rfl (by decide) rfl (y_assign rfl) ?_
              refine jl_nil ?_
              refine jq_then ?_
              refine jc_ret ?_
              refine jq_then_ret ?_
              refine jq_block_ret ?_
              refine jq_then_ret ?_
              refine jq_then_ret ?_
              refine jq_block_ret ?_
              refine jq_then_ret ?_
              refine jq_ret1 rfl rfl ?_
              exact fun _ hw => ⟨rfl, hw.ch⟩
              )
          · first
            | (exfalso; omega)
            | (
              refine jl_nil ?_
              refine jq_then ?_
              refine jc_false rfl ?_
              refine jc_skip ?_
              refine jq_then ?_
              refine jc_seq ?_
              -- region 10
              refine jc_region ?_
              refine jl_y rfl (by decide) rfl (y_move rfl) ?_
              refine jl_nil ?_
              refine jq_then ?_
              refine jc_true rfl ?_
              -- region 11
              refine jc_region ?_
              refine jl_y rfl (by decide) rfl (y_move rfl) ?_
              refine jl_y rfl (by decide) rfl (y_add_u64 rfl rfl) ?_
              refine jl_as (congrArg _ (show _ = cntW (client % m) ws m r + 1 by omega)) ?_
              refine jl_y rfl (by decide) rfl (y_assign rfl) ?_
              refine jl_nil ?_
              refine jq_block ?_
              refine jq_then ?_
              -- region 6
              refine jc_region ?_
              refine jl_y rfl (by decide) rfl (y_move rfl) ?_
              refine jl_y rfl (by decide) rfl (y_add_u64 rfl rfl) ?_
              refine jl_y rfl (by decide) rfl (y_assign rfl) ?_
              refine jl_nil ?_
              refine jq_round (i := r) (r + 1) ?_ ?_ ?_
              · omega
              · exact ⟨rfl, rfl, rfl, rfl, lk_int rfl (by simp only [cntW]; first | (rw [if_pos (by assumption)]; done) | (rw [if_neg (by assumption)]; omega)), lk_int rfl (by omega), trivial⟩
              · exact fun _ h => ⟨by omega, h⟩
              )
        · skip
          refine jl_y rfl (by decide) rfl (y_extract rfl rfl) ?_
          refine jl_as (u := .int .i64 0) (congrArg _ hwp.2) ?_
          refine jl_y rfl (by decide) rfl (y_assign rfl) ?_
          refine jl_y rfl (by decide) rfl (y_assign rfl) ?_
          refine jl_nil ?_
          refine jq_then ?_
          refine jc_seq ?_
          refine jc_seq ?_
          -- region 8
          refine jc_region ?_
          refine jl_y rfl (by decide) rfl (y_move rfl) ?_
          refine jl_y rfl (by decide) rfl (y_neq rfl rfl) ?_
          refine jl_prop (fun h46 => ?_) (fun h46 => ?_)
          · first
            | (exfalso; omega)
            | (
              refine jl_nil ?_
              refine jq_then ?_
              refine jc_true rfl ?_
              refine jc_seq ?_
              -- region 9
              refine jc_region ?_
              refine jl_y rfl (by decide) rfl (y_assign rfl) ?_
              refine jl_nil ?_
              refine jq_then ?_
              refine jc_ret ?_
              refine jq_then_ret ?_
              refine jq_block_ret ?_
              refine jq_then_ret ?_
              refine jq_then_ret ?_
              refine jq_block_ret ?_
              refine jq_then_ret ?_
              refine jq_ret1 rfl rfl ?_
              exact fun _ hw => ⟨rfl, hw.ch⟩
              )
          · first
            | (exfalso; omega)
            | (
              refine jl_nil ?_
              refine jq_then ?_
              refine jc_false rfl ?_
              refine jc_skip ?_
              refine jq_then ?_
              refine jc_seq ?_
              -- region 10
              refine jc_region ?_
              refine jl_y rfl (by decide) rfl (y_move rfl) ?_
              refine jl_nil ?_
              refine jq_then ?_
              refine jc_false rfl ?_
              refine jc_skip ?_
              refine jq_block ?_
              refine jq_then ?_
              -- region 6
              refine jc_region ?_
              refine jl_y rfl (by decide) rfl (y_move rfl) ?_
              refine jl_y rfl (by decide) rfl (y_add_u64 rfl rfl) ?_
              refine jl_y rfl (by decide) rfl (y_assign rfl) ?_
              refine jl_nil ?_
              refine jq_round (i := r) (r + 1) ?_ ?_ ?_
              · omega
              · exact ⟨rfl, rfl, rfl, rfl, lk_int rfl (by simp only [cntW]; first | (rw [if_pos (by assumption)]; done) | (rw [if_neg (by assumption)]; omega)), lk_int rfl (by omega), trivial⟩
              · exact fun _ h => ⟨by omega, h⟩
              )
        )
    · first
      | (exfalso; omega)
      | (
        refine jl_nil ?_
        refine jq_then ?_
        refine jc_false rfl ?_
        refine jc_exit ?_
        refine jq_then_exit ?_
        refine jq_then_exit ?_
        refine jq_hit ?_
        refine jq_then ?_
        refine jc_seq ?_
        refine jc_seq ?_
        -- region 12
        have hend := cntW_end (client % m) ws m hc1 hc2 (by omega) (by omega) r (by omega)
        refine jc_region ?_
        refine jl_y rfl (by decide) rfl (y_move rfl) ?_
        refine jl_y rfl (by decide) rfl (y_move rfl) ?_
        refine jl_y rfl (by decide) rfl (y_neq rfl rfl) ?_
        refine jl_prop (fun h52 => ?_) (fun h52 => ?_)
        · first
          | (exfalso; omega)
          | (
            refine jl_nil ?_
            refine jq_then ?_
            refine jc_true rfl ?_
            refine jc_seq ?_
            -- region 13
            refine jc_region ?_
            refine jl_y rfl (by decide) rfl (y_assign rfl) ?_
            refine jl_nil ?_
            refine jq_then ?_
            refine jc_ret ?_
            refine jq_then_ret ?_
            refine jq_ret1 rfl rfl ?_
            exact fun _ hw => ⟨rfl, hw.ch⟩
            )
        · first
          | (exfalso; omega)
          | (
            refine jl_nil ?_
            refine jq_then ?_
            refine jc_false rfl ?_
            refine jc_skip ?_
            refine jq_then ?_
            refine jc_seq ?_
            -- region 14
            refine jc_region ?_
            refine jl_y rfl (by decide) rfl (y_move rfl) ?_
            refine jl_y rfl (by decide) rfl (y_move rfl) ?_
            refine jl_y rfl (by decide) rfl (y_move rfl) ?_
            refine jl_pcall rfl (by decide) rfl (goes_func rfl) (fun w1 hw1 => pcall hw1 (nominal_any _ _ _ w1 (by simp only [fits] at *; omega) (by simp only [fits] at *; omega) (by simp only [fits] at *; omega))) ?_
            refine jl_y rfl (by decide) rfl (y_move rfl) ?_
            refine jl_y rfl (by decide) rfl (y_extract rfl rfl) ?_
            refine jl_y rfl (by decide) rfl (y_extract rfl rfl) ?_
            refine jl_y rfl (by decide) rfl (y_assign rfl) ?_
            refine jl_y rfl (by decide) rfl (y_assign rfl) ?_
            refine jl_nil ?_
            refine jq_then ?_
            refine jc_seq ?_
            refine jc_seq ?_
            -- region 15
            refine jc_region ?_
            refine jl_y rfl (by decide) rfl (y_move rfl) ?_
            refine jl_y rfl (by decide) rfl (y_neq rfl rfl) ?_
            refine jl_prop (fun h61 => ?_) (fun h61 => ?_)
            · first
              | (exfalso; omega)
              | (
                have hodd : 0 < face * ws % m := Decidable.byContradiction (fun h => by have h9 := (hnp h).2; omega)
                have hE := (hne hodd).2
                have hrm := @rm_pos face ws m (by omega)
                refine jl_nil ?_
                refine jq_then ?_
                refine jc_true rfl ?_
                refine jc_seq ?_
                -- region 16
                refine jc_region ?_
                refine jl_y rfl (by decide) rfl (y_move rfl) ?_
                refine jl_y rfl (by decide) rfl (y_move rfl) ?_
                refine jl_y rfl (by decide) rfl (y_move rfl) ?_
                refine jl_pcall rfl (by decide) rfl (goes_func rfl) (fun w1 hw1 => pcall hw1 (rrem_any _ _ _ w1 (by simp only [fits] at *; omega) (by simp only [fits] at *; omega) (by simp only [fits] at *; omega))) ?_
                refine jl_y rfl (by decide) rfl (y_move rfl) ?_
                refine jl_y rfl (by decide) rfl (y_extract rfl rfl) ?_
                refine jl_as (u := .int .u64 (face * ws % m)) (congrArg _ hrm.1) ?_
                refine jl_y rfl (by decide) rfl (y_extract rfl rfl) ?_
                refine jl_y rfl (by decide) rfl (y_assign rfl) ?_
                refine jl_y rfl (by decide) rfl (y_assign rfl) ?_
                refine jl_nil ?_
                refine jq_then ?_
                refine jc_seq ?_
                -- region 17
                refine jc_region ?_
                refine jl_y rfl (by decide) rfl (y_move rfl) ?_
                refine jl_y rfl (by decide) rfl (y_eql rfl rfl) ?_
                refine jl_prop (fun h70 => ?_) (fun h70 => ?_)
                · first
                  | (exfalso; omega)
                  | (
                    refine jl_y rfl (by decide) rfl (y_move rfl) ?_
                    refine jl_y rfl (by decide) rfl (y_move rfl) ?_
                    refine jl_y rfl (by decide) rfl (y_gtr rfl rfl) ?_
                    refine jl_prop (fun h73 => ?_) (fun h73 => ?_)
                    · first
                      | (exfalso; omega)
                      | (
                        refine jl_y rfl (by decide) rfl (y_pick_true rfl rfl) ?_
                        refine jl_y rfl (by decide) rfl (y_move rfl) ?_
                        refine jl_pcall rfl (by decide) rfl (goes_func rfl) (fun w1 hw1 => pcall hw1 (fixed5_any w1)) ?_
                        refine jl_y rfl (by decide) rfl (y_pick_true rfl rfl) ?_
                        refine jl_y rfl (by decide) rfl (y_assign rfl) ?_
                        refine jl_nil ?_
                        refine jq_then ?_
                        refine jc_ret ?_
                        refine jq_then_ret ?_
                        refine jq_ret1 rfl rfl ?_
                        exact fun _ hw => ⟨rfl, hw.ch⟩
                        )
                    · first
                      | (exfalso; omega)
                      | (
                        refine jl_y rfl (by decide) rfl (y_pick_true rfl rfl) ?_
                        refine jl_y rfl (by decide) rfl (y_move rfl) ?_
                        refine jl_skip rfl (by decide) rfl ?_
                        refine jl_y rfl (by decide) rfl (y_pick_false rfl rfl) ?_
                        refine jl_y rfl (by decide) rfl (y_assign rfl) ?_
                        refine jl_nil ?_
                        refine jq_then ?_
                        refine jc_ret ?_
                        refine jq_then_ret ?_
                        refine jq_ret1 rfl rfl ?_
                        exact fun _ hw => ⟨rfl, hw.ch⟩
                        )
                    )
                · first
                  | (exfalso; omega)
                  | (
                    refine jl_y rfl (by decide) rfl (y_move rfl) ?_
                    refine jl_skip rfl (by decide) rfl ?_
                    refine jl_skip rfl (by decide) rfl ?_
                    refine jl_y rfl (by decide) rfl (y_pick_false rfl rfl) ?_
                    refine jl_y rfl (by decide) rfl (y_move rfl) ?_
                    refine jl_skip rfl (by decide) rfl ?_
                    refine jl_y rfl (by decide) rfl (y_pick_false rfl rfl) ?_
                    refine jl_y rfl (by decide) rfl (y_assign rfl) ?_
                    refine jl_nil ?_
                    refine jq_then ?_
                    refine jc_ret ?_
                    refine jq_then_ret ?_
                    refine jq_ret1 rfl rfl ?_
                    exact fun _ hw => ⟨rfl, hw.ch⟩
                    )
                )
            · first
              | (exfalso; omega)
              | (
                have hev : ¬ 0 < face * ws % m := fun h => by have h9 := (hne h).2; omega
                have hV := (hnp hev).1
                have hE := (hnp hev).2
                refine jl_nil ?_
                refine jq_then ?_
                refine jc_false rfl ?_
                refine jc_skip ?_
                refine jq_then ?_
                refine jc_seq ?_
                refine jc_seq ?_
                -- region 18
                refine jc_region ?_
                refine jl_y rfl (by decide) rfl (y_move rfl) ?_
                refine jl_y rfl (by decide) rfl (y_eql rfl rfl) ?_
                refine jl_prop (fun h79 => ?_) (fun h79 => ?_)
                · first
                  | (exfalso; omega)
                  | (
                    have hz : nomV face ws m = 0 := by rw [hV, h79, Int.zero_mul, Int.zero_ediv]
                    refine jl_nil ?_
                    refine jq_then ?_
                    refine jc_true rfl ?_
                    refine jc_seq ?_
                    -- region 19
                    refine jc_region ?_
                    refine jl_y rfl (by decide) rfl (y_move rfl) ?_
                    refine jl_y rfl (by decide) rfl (y_eql rfl rfl) ?_
                    refine jl_prop (fun h81 => ?_) (fun h81 => ?_)
                    · first
                      | (exfalso; omega)
                      | (
                        refine jl_y rfl (by decide) rfl (y_move rfl) ?_
                        refine jl_pcall rfl (by decide) rfl (goes_func rfl) (fun w1 hw1 => pcall hw1 (fixed5_any w1)) ?_
                        refine jl_y rfl (by decide) rfl (y_pick_true rfl rfl) ?_
                        refine jl_y rfl (by decide) rfl (y_assign rfl) ?_
                        refine jl_nil ?_
                        refine jq_then ?_
                        refine jc_ret ?_
                        refine jq_then_ret ?_
                        refine jq_ret1 rfl rfl ?_
                        exact fun _ hw => ⟨rfl, hw.ch⟩
                        )
                    · first
                      | (exfalso; omega)
                      | (
                        refine jl_y rfl (by decide) rfl (y_move rfl) ?_
                        refine jl_skip rfl (by decide) rfl ?_
                        refine jl_y rfl (by decide) rfl (y_pick_false rfl rfl) ?_
                        refine jl_y rfl (by decide) rfl (y_assign rfl) ?_
                        refine jl_nil ?_
                        refine jq_then ?_
                        refine jc_ret ?_
                        refine jq_then_ret ?_
                        refine jq_ret1 rfl rfl ?_
                        exact fun _ hw => ⟨rfl, hw.ch⟩
                        )
                    )
                · first
                  | (exfalso; omega)
                  | (
                    have hback := back_md hev (show 0 < m by omega) (show 0 < face by omega) (show ws ≤ 18446744073709551615 by omega)
                    rw [← hV] at hback
                    refine jl_nil ?_
                    refine jq_then ?_
                    refine jc_false rfl ?_
                    refine jc_skip ?_
                    refine jq_then ?_
                    refine jc_seq ?_
                    -- region 20
                    refine jc_region ?_
                    refine jl_y rfl (by decide) rfl (y_move rfl) ?_
                    refine jl_y rfl (by decide) rfl (y_move rfl) ?_
                    refine jl_y rfl (by decide) rfl (y_move rfl) ?_
                    refine jl_pcall rfl (by decide) rfl (goes_func rfl) (fun w1 hw1 => pcall hw1 (rmuldiv_any _ _ _ w1 (by simp only [fits] at *; omega) (by simp only [fits] at *; omega) (by simp only [fits] at *; omega))) ?_
                    refine jl_y rfl (by decide) rfl (y_move rfl) ?_
                    refine jl_y rfl (by decide) rfl (y_extract rfl rfl) ?_
                    refine jl_as (u := .int .u64 ws) (congrArg _ hback.1) ?_
                    refine jl_y rfl (by decide) rfl (y_extract rfl rfl) ?_
                    refine jl_as (u := .int .i64 0) (congrArg _ hback.2.1) ?_
                    refine jl_y rfl (by decide) rfl (y_assign rfl) ?_
                    refine jl_y rfl (by decide) rfl (y_assign rfl) ?_
                    refine jl_nil ?_
                    refine jq_then ?_
                    refine jc_seq ?_
                    -- region 21
                    refine jc_region ?_
                    refine jl_y rfl (by decide) rfl (y_move rfl) ?_
                    refine jl_y rfl (by decide) rfl (y_move rfl) ?_
                    refine jl_y rfl (by decide) rfl (y_move rfl) ?_
                    refine jl_pcall rfl (by decide) rfl (goes_func rfl) (fun w1 hw1 => pcall hw1 (rrem_any _ _ _ w1 (by simp only [fits] at *; omega) (by simp only [fits] at *; omega) (by simp only [fits] at *; omega))) ?_
                    refine jl_y rfl (by decide) rfl (y_move rfl) ?_
                    refine jl_y rfl (by decide) rfl (y_extract rfl rfl) ?_
                    refine jl_as (u := .int .u64 0) (congrArg _ hback.2.2) ?_
                    refine jl_y rfl (by decide) rfl (y_extract rfl rfl) ?_
                    refine jl_y rfl (by decide) rfl (y_assign rfl) ?_
                    refine jl_y rfl (by decide) rfl (y_assign rfl) ?_
                    refine jl_nil ?_
                    refine jq_then ?_
                    refine jc_seq ?_
                    -- region 22
                    refine jc_region ?_
                    refine jl_y rfl (by decide) rfl (y_move rfl) ?_
                    refine jl_y rfl (by decide) rfl (y_move rfl) ?_
                    refine jl_y rfl (by decide) rfl (y_leq rfl rfl) ?_
                    refine jl_prop (fun h101 => ?_) (fun h101 => ?_)
                    · first
                      | (exfalso; omega)
                      | (
                        refine jl_y rfl (by decide) rfl (y_move rfl) ?_
                        refine jl_y rfl (by decide) rfl (y_move rfl) ?_
                        refine jl_y rfl (by decide) rfl (y_eql rfl rfl) ?_
                        refine jl_prop (fun h104 => ?_) (fun h104 => ?_)
                        · first
                          | (exfalso; omega)
                          | (
                            refine jl_y rfl (by decide) rfl (y_pick_true rfl rfl) ?_
                            refine jl_y rfl (by decide) rfl (y_move rfl) ?_
                            refine jl_y rfl (by decide) rfl (y_move rfl) ?_
                            refine jl_y rfl (by decide) rfl (y_move rfl) ?_
                            refine jl_y rfl (by decide) rfl (y_eql rfl rfl) ?_
                            refine jl_prop (fun h109 => ?_) (fun h109 => ?_)
                            · first
                              | (exfalso; omega)
                              | (
                                refine jl_y rfl (by decide) rfl (y_pick_true rfl rfl) ?_
                                refine jl_y rfl (by decide) rfl (y_move rfl) ?_
                                refine jl_y rfl (by decide) rfl (y_move rfl) ?_
                                refine jl_y rfl (by decide) rfl (y_eql rfl rfl) ?_
                                refine jl_prop (fun h113 => ?_) (fun h113 => ?_)
                                · first
                                  | (exfalso; omega)
                                  | (
                                    refine jl_y rfl (by decide) rfl (y_pick_true rfl rfl) ?_
                                    refine jl_y rfl (by decide) rfl (y_move rfl) ?_
                                    refine jl_pcall rfl (by decide) rfl (goes_func rfl) (fun w1 hw1 => pcall hw1 (fixed5_any w1)) ?_
                                    refine jl_y rfl (by decide) rfl (y_pick_true rfl rfl) ?_
                                    refine jl_y rfl (by decide) rfl (y_assign rfl) ?_
                                    refine jl_nil ?_
                                    refine jq_then ?_
                                    refine jc_ret ?_
                                    refine jq_ret1 rfl rfl ?_
                                    exact fun _ hw => ⟨rfl, hw.ch⟩
                                    )
                                · first
                                  | (exfalso; omega)
                                  | (
                                    refine jl_y rfl (by decide) rfl (y_pick_true rfl rfl) ?_
                                    refine jl_y rfl (by decide) rfl (y_move rfl) ?_
                                    refine jl_skip rfl (by decide) rfl ?_
                                    refine jl_y rfl (by decide) rfl (y_pick_false rfl rfl) ?_
                                    refine jl_y rfl (by decide) rfl (y_assign rfl) ?_
                                    refine jl_nil ?_
                                    refine jq_then ?_
                                    refine jc_ret ?_
                                    refine jq_ret1 rfl rfl ?_
                                    exact fun _ hw => ⟨rfl, hw.ch⟩
                                    )
                                )
                            · first
                              | (exfalso; omega)
                              | (
                                refine jl_y rfl (by decide) rfl (y_pick_true rfl rfl) ?_
                                refine jl_y rfl (by decide) rfl (y_move rfl) ?_
                                refine jl_skip rfl (by decide) rfl ?_
                                refine jl_skip rfl (by decide) rfl ?_
                                refine jl_y rfl (by decide) rfl (y_pick_false rfl rfl) ?_
                                refine jl_y rfl (by decide) rfl (y_move rfl) ?_
                                refine jl_skip rfl (by decide) rfl ?_
                                refine jl_y rfl (by decide) rfl (y_pick_false rfl rfl) ?_
                                refine jl_y rfl (by decide) rfl (y_assign rfl) ?_
                                refine jl_nil ?_
                                refine jq_then ?_
                                refine jc_ret ?_
                                refine jq_ret1 rfl rfl ?_
                                exact fun _ hw => ⟨rfl, hw.ch⟩
                                )
                            )
                        · first
                          | (exfalso; omega)
                          | (
                            refine jl_y rfl (by decide) rfl (y_pick_true rfl rfl) ?_
                            refine jl_y rfl (by decide) rfl (y_move rfl) ?_
                            refine jl_skip rfl (by decide) rfl ?_
                            refine jl_skip rfl (by decide) rfl ?_
                            refine jl_skip rfl (by decide) rfl ?_
                            refine jl_y rfl (by decide) rfl (y_pick_false rfl rfl) ?_
                            refine jl_y rfl (by decide) rfl (y_move rfl) ?_
                            refine jl_skip rfl (by decide) rfl ?_
                            refine jl_skip rfl (by decide) rfl ?_
                            refine jl_y rfl (by decide) rfl (y_pick_false rfl rfl) ?_
                            refine jl_y rfl (by decide) rfl (y_move rfl) ?_
                            refine jl_skip rfl (by decide) rfl ?_
                            refine jl_y rfl (by decide) rfl (y_pick_false rfl rfl) ?_
                            refine jl_y rfl (by decide) rfl (y_assign rfl) ?_
                            refine jl_nil ?_
                            refine jq_then ?_
                            refine jc_ret ?_
                            refine jq_ret1 rfl rfl ?_
                            exact fun _ hw => ⟨rfl, hw.ch⟩
                            )
                        )
                    · first
                      | (exfalso; omega)
                      | (
                        refine jl_y rfl (by decide) rfl (y_move rfl) ?_
                        refine jl_skip rfl (by decide) rfl ?_
                        refine jl_skip rfl (by decide) rfl ?_
                        refine jl_y rfl (by decide) rfl (y_pick_false rfl rfl) ?_
                        refine jl_y rfl (by decide) rfl (y_move rfl) ?_
                        refine jl_skip rfl (by decide) rfl ?_
                        refine jl_skip rfl (by decide) rfl ?_
                        refine jl_skip rfl (by decide) rfl ?_
                        refine jl_y rfl (by decide) rfl (y_pick_false rfl rfl) ?_
                        refine jl_y rfl (by decide) rfl (y_move rfl) ?_
                        refine jl_skip rfl (by decide) rfl ?_
                        refine jl_skip rfl (by decide) rfl ?_
                        refine jl_y rfl (by decide) rfl (y_pick_false rfl rfl) ?_
                        refine jl_y rfl (by decide) rfl (y_move rfl) ?_
                        refine jl_skip rfl (by decide) rfl ?_
                        refine jl_y rfl (by decide) rfl (y_pick_false rfl rfl) ?_
                        refine jl_y rfl (by decide) rfl (y_assign rfl) ?_
                        refine jl_nil ?_
                        refine jq_then ?_
                        refine jc_ret ?_
                        refine jq_ret1 rfl rfl ?_
                        exact fun _ hw => ⟨rfl, hw.ch⟩
                        )
                    )
                )
            )
        )

theorem drawEven_any (many at0 r : Int) (w : World) (hmn : fits .u64 many) (hat : fits .u64 at0) (hr : fits .u64 r) :
    Calls Try.prog 6 #[.int .u64 many, .int .u64 at0, .int .u64 r] w fun e w' => e = .returned (.bool true) ∧ Ch [] w w' := by
  simp only [fits] at *
  obtain ⟨m, hm⟩ : ∃ m : Int, m = 1 + many % 4294967296 := ⟨_, rfl⟩
  have hmay : 1 ≤ m ∧ m ≤ 4294967296 := by omega
  obtain ⟨t, ht⟩ : ∃ t : Int, t = topV m := ⟨_, rfl⟩
  have htr := topV_range m
  have htf := top_facts hmay (ht.trans (topV_pos hmay))
  rw [← ht] at htr
  obtain ⟨q, hq⟩ : ∃ q : Int, q = t / m := ⟨_, rfl⟩
  have hq0 : 0 ≤ q := by rw [hq]; exact Int.ediv_nonneg htr.1 (by omega)
  have hq1 : q ≤ t := by rw [hq]; exact Int.ediv_le_self _ htr.1
  obtain ⟨x, hx⟩ : ∃ x : Int, x = r % m := ⟨_, rfl⟩
  have hx0 := Int.emod_nonneg r (show m ≠ 0 by omega)
  have hx1 := Int.emod_lt_of_pos r (show 0 < m by omega)
  rw [← hx] at hx0 hx1
  have hkq0 := Int.emod_nonneg at0 (show q + 1 ≠ 0 by omega)
  have hkq1 := Int.emod_lt_of_pos at0 (show 0 < q + 1 by omega)
  obtain ⟨k, hkd⟩ : ∃ k : Int, k = if q < 18446744073709551615 then at0 % (q + 1) else at0 := ⟨_, rfl⟩
  have hkq : 0 ≤ k ∧ k ≤ q := by rw [hkd]; split <;> omega
  have hlow := word_low (k := k) (x := x) hmay.1 htf.2.2.2 (by rw [← hq]; exact hkq.2) hx1
  have hkm0 : 0 ≤ k * m := Int.mul_nonneg hkq.1 (by omega)
  have hfp := @fair_pos (k * m + x) m hmay (by omega)
  rw [word_tells hx0 hx1] at hfp
  refine calls_of (n := 98) (E := [(0, .int .u64 many), (1, .int .u64 at0), (2, .int .u64 r)]) (W := Hp w [] []) Try.func6 rfl rfl (Nat.le_of_ble_eq_true rfl) rfl (Hp.nil _ _) ?_
  refine jc_seq ?_
  -- region 0
  refine jc_region ?_
  refine jl_y rfl (by decide) rfl (y_assign rfl) ?_
  refine jl_nil ?_
  refine jq_then ?_
  refine jc_seq ?_
  -- region 1
  refine jc_region ?_
  refine jl_y rfl (by decide) rfl (y_move rfl) ?_
  refine jl_y rfl (by decide) rfl (y_rem rfl rfl (by omega) (by omega)) ?_
  refine jl_y rfl (by decide) rfl (y_add_u64 rfl rfl) ?_
  refine jl_as (u := .int .u64 m) (congrArg _ (by omega)) ?_
  refine jl_y rfl (by decide) rfl (y_assign rfl) ?_
  refine jl_nil ?_
  refine jq_then ?_
  refine jc_seq ?_
  -- region 2
  refine jc_region ?_
  refine jl_y rfl (by decide) rfl (y_move rfl) ?_
  refine jl_pcall rfl (by decide) rfl (goes_func rfl) (fun w1 hw1 => pcall hw1 (top_any _ w1 (by simp only [fits] at *; omega))) ?_
  refine jl_y rfl (by decide) rfl (y_move rfl) ?_
  refine jl_y rfl (by decide) rfl (y_extract rfl rfl) ?_
  refine jl_as (u := .int .u64 t) (congrArg _ ht.symm) ?_
  refine jl_y rfl (by decide) rfl (y_extract rfl rfl) ?_
  refine jl_as (u := .int .i64 0) (congrArg _ (topE_pos hmay)) ?_
  refine jl_y rfl (by decide) rfl (y_assign rfl) ?_
  refine jl_y rfl (by decide) rfl (y_assign rfl) ?_
  refine jl_nil ?_
  refine jq_then ?_
  refine jc_seq ?_
  refine jc_seq ?_
  -- region 3
  refine jc_region ?_
  refine jl_y rfl (by decide) rfl (y_move rfl) ?_
  refine jl_y rfl (by decide) rfl (y_neq rfl rfl) ?_
  refine jl_prop (fun h26 => ?_) (fun h26 => ?_)
  · first
    | (exfalso; omega)
    | (
      refine jl_y rfl (by decide) rfl (y_move rfl) ?_
      refine jl_skip rfl (by decide) rfl ?_
      refine jl_skip rfl (by decide) rfl ?_
      refine jl_skip rfl (by decide) rfl ?_
      refine jl_skip rfl (by decide) rfl ?_
      refine jl_skip rfl (by decide) rfl ?_
      refine jl_skip rfl (by decide) rfl ?_
      refine jl_y rfl (by decide) rfl (y_pick_true rfl rfl) ?_
      refine jl_y rfl (by decide) rfl (y_move rfl) ?_
      refine jl_skip rfl (by decide) rfl ?_
      refine jl_skip rfl (by decide) rfl ?_
      refine jl_skip rfl (by decide) rfl ?_
      refine jl_skip rfl (by decide) rfl ?_
      refine jl_y rfl (by decide) rfl (y_pick_true rfl rfl) ?_
      refine jl_nil ?_
      refine jq_then ?_
      refine jc_true rfl ?_
      refine jc_seq ?_
      -- region 4
      refine jc_region ?_
      refine jl_y rfl (by decide) rfl (y_assign rfl) ?_
      refine jl_nil ?_
      refine jq_then ?_
      refine jc_ret ?_
      refine jq_then_ret ?_
      refine jq_ret1 rfl rfl ?_
      exact fun _ hw => ⟨rfl, hw.ch⟩
      )
  · first
    | (exfalso; omega)
    | (
      refine jl_y rfl (by decide) rfl (y_move rfl) ?_
      refine jl_y rfl (by decide) rfl (y_move rfl) ?_
      refine jl_y rfl (by decide) rfl (y_move rfl) ?_
      refine jl_y rfl (by decide) rfl (y_rem rfl rfl (by omega) (by omega)) ?_
      refine jl_as (u := .int .u64 (m - 1)) (congrArg _ htf.1) ?_
      refine jl_y rfl (by decide) rfl (y_move rfl) ?_
      refine jl_y rfl (by decide) rfl (y_sub_u64 rfl rfl) ?_
      refine jl_y rfl (by decide) rfl (y_neq rfl rfl) ?_
      refine jl_prop (fun h33 => ?_) (fun h33 => ?_)
      · first
        | (exfalso; omega)
        | (
          refine jl_y rfl (by decide) rfl (y_pick_false rfl rfl) ?_
          refine jl_y rfl (by decide) rfl (y_move rfl) ?_
          refine jl_skip rfl (by decide) rfl ?_
          refine jl_skip rfl (by decide) rfl ?_
          refine jl_skip rfl (by decide) rfl ?_
          refine jl_skip rfl (by decide) rfl ?_
          refine jl_y rfl (by decide) rfl (y_pick_true rfl rfl) ?_
          refine jl_nil ?_
          refine jq_then ?_
          refine jc_true rfl ?_
          refine jc_seq ?_
          -- region 4
          refine jc_region ?_
          refine jl_y rfl (by decide) rfl (y_assign rfl) ?_
          refine jl_nil ?_
          refine jq_then ?_
          refine jc_ret ?_
          refine jq_then_ret ?_
          refine jq_ret1 rfl rfl ?_
          exact fun _ hw => ⟨rfl, hw.ch⟩
          )
      · first
        | (exfalso; omega)
        | (
          refine jl_y rfl (by decide) rfl (y_pick_false rfl rfl) ?_
          refine jl_y rfl (by decide) rfl (y_move rfl) ?_
          refine jl_y rfl (by decide) rfl (y_move rfl) ?_
          refine jl_y rfl (by decide) rfl (y_sub_u64 rfl rfl) ?_
          refine jl_y rfl (by decide) rfl (y_move rfl) ?_
          refine jl_y rfl (by decide) rfl (y_geq rfl rfl) ?_
          refine jl_prop (fun h39 => ?_) (fun h39 => ?_)
          · first
            | (exfalso; omega)
            | (
              refine jl_y rfl (by decide) rfl (y_pick_false rfl rfl) ?_
              refine jl_nil ?_
              refine jq_then ?_
              refine jc_true rfl ?_
              refine jc_seq ?_
              -- region 4
              refine jc_region ?_
              refine jl_y rfl (by decide) rfl (y_assign rfl) ?_
              refine jl_nil ?_
              refine jq_then ?_
              refine jc_ret ?_
              refine jq_then_ret ?_
              refine jq_ret1 rfl rfl ?_
              exact fun _ hw => ⟨rfl, hw.ch⟩
              )
          · first
            | (exfalso; omega)
            | (
              refine jl_y rfl (by decide) rfl (y_pick_false rfl rfl) ?_
              refine jl_nil ?_
              refine jq_then ?_
              refine jc_false rfl ?_
              refine jc_skip ?_
              refine jq_then ?_
              refine jc_seq ?_
              -- region 5
              refine jc_region ?_
              refine jl_y rfl (by decide) rfl (y_move rfl) ?_
              refine jl_y rfl (by decide) rfl (y_move rfl) ?_
              refine jl_y rfl (by decide) rfl (y_quo rfl rfl (by omega) (by omega) (by rw [← hq]; simp only [fits]; omega)) ?_
              refine jl_as (u := .int .u64 q) (congrArg _ hq.symm) ?_
              refine jl_y rfl (by decide) rfl (y_assign rfl) ?_
              refine jl_nil ?_
              refine jq_then ?_
              refine jc_seq ?_
              -- region 6
              refine jc_region ?_
              refine jl_y rfl (by decide) rfl (y_move rfl) ?_
              refine jl_y rfl (by decide) rfl (y_assign rfl) ?_
              refine jl_nil ?_
              refine jq_then ?_
              refine jc_seq ?_
              refine jc_seq ?_
              -- region 7
              refine jc_region ?_
              refine jl_y rfl (by decide) rfl (y_move rfl) ?_
              refine jl_y rfl (by decide) rfl (y_lss rfl rfl) ?_
              refine jl_prop (fun h46 => ?_) (fun h46 => ?_)
              · first
                | (exfalso; omega)
                | (
                  have hk : at0 % (q + 1) = k := by rw [hkd, if_pos h46]
                  refine jl_nil ?_
                  refine jq_then ?_
                  refine jc_true rfl ?_
                  -- region 8
                  refine jc_region ?_
                  refine jl_y rfl (by decide) rfl (y_move rfl) ?_
                  refine jl_y rfl (by decide) rfl (y_move rfl) ?_
                  refine jl_y rfl (by decide) rfl (y_add_u64 rfl rfl) ?_
                  refine jl_y rfl (by decide) rfl (y_rem rfl rfl (by omega) (by omega)) ?_
                  refine jl_as (u := .int .u64 (at0 % (q + 1))) (congrArg _ (by congr 1; omega)) ?_
                  refine jl_y rfl (by decide) rfl (y_assign rfl) ?_
                  refine jl_nil ?_
                  refine jq_then ?_
                  refine jc_seq ?_
                  -- region 9
                  refine jc_region ?_
                  refine jl_y rfl (by decide) rfl (y_move rfl) ?_
                  refine jl_y rfl (by decide) rfl (y_move rfl) ?_
                  refine jl_y rfl (by decide) rfl (y_rem rfl rfl (by omega) (by omega)) ?_
                  refine jl_as (u := .int .u64 x) (congrArg _ hx.symm) ?_
                  refine jl_y rfl (by decide) rfl (y_assign rfl) ?_
                  refine jl_nil ?_
                  refine jq_then ?_
                  refine jc_seq ?_
                  refine jc_seq ?_
                  -- region 10
                  refine jc_region ?_
                  refine jl_y rfl (by decide) rfl (y_move rfl) ?_
                  refine jl_as (u := .int .u64 k) (congrArg _ hk) ?_
                  refine jl_y rfl (by decide) rfl (y_move rfl) ?_
                  refine jl_y rfl (by decide) rfl (y_mul_u64 rfl rfl) ?_
                  refine jl_as (u := .int .u64 (k * m)) (congrArg _ (by omega)) ?_
                  refine jl_y rfl (by decide) rfl (y_move rfl) ?_
                  refine jl_y rfl (by decide) rfl (y_move rfl) ?_
                  refine jl_y rfl (by decide) rfl (y_sub_u64 rfl rfl) ?_
                  refine jl_y rfl (by decide) rfl (y_gtr rfl rfl) ?_
                  refine jl_prop (fun h60 => ?_) (fun h60 => ?_)
                  · first
                    | (exfalso; omega)
                    | (
                      refine jl_nil ?_
                      refine jq_then ?_
                      refine jc_true rfl ?_
                      refine jc_seq ?_
                      -- region 11
                      refine jc_region ?_
                      refine jl_y rfl (by decide) rfl (y_assign rfl) ?_
                      refine jl_nil ?_
                      refine jq_then ?_
                      refine jc_ret ?_
                      refine jq_then_ret ?_
                      refine jq_ret1 rfl rfl ?_
                      exact fun _ hw => ⟨rfl, hw.ch⟩
                      )
                  · first
                    | (exfalso; omega)
                    | (
                      refine jl_nil ?_
                      refine jq_then ?_
                      refine jc_false rfl ?_
                      refine jc_skip ?_
                      refine jq_then ?_
                      refine jc_seq ?_
                      -- region 12
                      refine jc_region ?_
                      refine jl_y rfl (by decide) rfl (y_move rfl) ?_
                      refine jl_as (u := .int .u64 k) (congrArg _ hk) ?_
                      refine jl_y rfl (by decide) rfl (y_move rfl) ?_
                      refine jl_y rfl (by decide) rfl (y_mul_u64 rfl rfl) ?_
                      refine jl_as (u := .int .u64 (k * m)) (congrArg _ (by omega)) ?_
                      refine jl_y rfl (by decide) rfl (y_move rfl) ?_
                      refine jl_y rfl (by decide) rfl (y_add_u64 rfl rfl) ?_
                      refine jl_as (u := .int .u64 (k * m + x)) (congrArg _ (by omega)) ?_
                      refine jl_y rfl (by decide) rfl (y_move rfl) ?_
                      refine jl_pcall rfl (by decide) rfl (goes_func rfl) (fun w1 hw1 => pcall hw1 (fair_any _ _ w1 (by simp only [fits] at *; omega) (by simp only [fits] at *; omega))) ?_
                      refine jl_y rfl (by decide) rfl (y_move rfl) ?_
                      refine jl_y rfl (by decide) rfl (y_extract rfl rfl) ?_
                      refine jl_as (u := .int .u64 x) (congrArg _ hfp.1) ?_
                      refine jl_y rfl (by decide) rfl (y_extract rfl rfl) ?_
                      refine jl_as (u := .int .i64 0) (congrArg _ hfp.2) ?_
                      refine jl_y rfl (by decide) rfl (y_assign rfl) ?_
                      refine jl_y rfl (by decide) rfl (y_assign rfl) ?_
                      refine jl_nil ?_
                      refine jq_then ?_
                      refine jc_seq ?_
                      refine jc_seq ?_
                      -- region 13
                      refine jc_region ?_
                      refine jl_y rfl (by decide) rfl (y_move rfl) ?_
                      refine jl_y rfl (by decide) rfl (y_move rfl) ?_
                      refine jl_y rfl (by decide) rfl (y_neq rfl rfl) ?_
                      refine jl_prop (fun h73 => ?_) (fun h73 => ?_)
                      · first
                        | (exfalso; omega)
                        | (
                          refine jl_y rfl (by decide) rfl (y_move rfl) ?_
                          refine jl_skip rfl (by decide) rfl ?_
                          refine jl_skip rfl (by decide) rfl ?_
                          refine jl_y rfl (by decide) rfl (y_pick_true rfl rfl) ?_
                          refine jl_nil ?_
                          refine jq_then ?_
                          refine jc_true rfl ?_
                          refine jc_seq ?_
                          -- region 14
                          refine jc_region ?_
                          refine jl_y rfl (by decide) rfl (y_assign rfl) ?_
                          refine jl_nil ?_
                          refine jq_then ?_
                          refine jc_ret ?_
                          refine jq_then_ret ?_
                          refine jq_ret1 rfl rfl ?_
                          exact fun _ hw => ⟨rfl, hw.ch⟩
                          )
                      · first
                        | (exfalso; omega)
                        | (
                          refine jl_y rfl (by decide) rfl (y_move rfl) ?_
                          refine jl_y rfl (by decide) rfl (y_move rfl) ?_
                          refine jl_y rfl (by decide) rfl (y_neq rfl rfl) ?_
                          refine jl_prop (fun h76 => ?_) (fun h76 => ?_)
                          · first
                            | (exfalso; omega)
                            | (
                              refine jl_y rfl (by decide) rfl (y_pick_false rfl rfl) ?_
                              refine jl_nil ?_
                              refine jq_then ?_
                              refine jc_true rfl ?_
                              refine jc_seq ?_
                              -- region 14
                              refine jc_region ?_
                              refine jl_y rfl (by decide) rfl (y_assign rfl) ?_
                              refine jl_nil ?_
                              refine jq_then ?_
                              refine jc_ret ?_
                              refine jq_then_ret ?_
                              refine jq_ret1 rfl rfl ?_
                              exact fun _ hw => ⟨rfl, hw.ch⟩
                              )
                          · first
                            | (exfalso; omega)
                            | (
                              refine jl_y rfl (by decide) rfl (y_pick_false rfl rfl) ?_
                              refine jl_nil ?_
                              refine jq_then ?_
                              refine jc_false rfl ?_
                              refine jc_skip ?_
                              refine jq_then ?_
                              refine jc_seq ?_
                              refine jc_seq ?_
                              -- region 15
                              refine jc_region ?_
                              refine jl_y rfl (by decide) rfl (y_move rfl) ?_
                              refine jl_y rfl (by decide) rfl (y_lss rfl rfl) ?_
                              refine jl_prop (fun h79 => ?_) (fun h79 => ?_)
                              · first
                                | (exfalso; omega)
                                | (
                                  have hg0 := Int.emod_nonneg at0 (show 18446744073709551615 - t ≠ 0 by omega)
                                  have hg1 := Int.emod_lt_of_pos at0 (show 0 < 18446744073709551615 - t by omega)
                                  have hfh := @fair_high (t + 1 + at0 % (18446744073709551615 - t)) m hmay (by omega)
                                  refine jl_nil ?_
                                  refine jq_then ?_
                                  refine jc_true rfl ?_
                                  refine jc_seq ?_
                                  -- region 16
                                  refine jc_region ?_
                                  refine jl_y rfl (by decide) rfl (y_move rfl) ?_
                                  refine jl_y rfl (by decide) rfl (y_add_u64 rfl rfl) ?_
                                  refine jl_as (u := .int .u64 (t + 1)) (congrArg _ (by omega)) ?_
                                  refine jl_y rfl (by decide) rfl (y_move rfl) ?_
                                  refine jl_y rfl (by decide) rfl (y_move rfl) ?_
                                  refine jl_y rfl (by decide) rfl (y_sub_u64 rfl rfl) ?_
                                  refine jl_as (u := .int .u64 (18446744073709551615 - t)) (congrArg _ (by omega)) ?_
                                  refine jl_y rfl (by decide) rfl (y_rem rfl rfl (by omega) (by omega)) ?_
                                  refine jl_y rfl (by decide) rfl (y_add_u64 rfl rfl) ?_
                                  refine jl_as (u := .int .u64 (t + 1 + at0 % (18446744073709551615 - t))) (congrArg _ (by omega)) ?_
                                  refine jl_y rfl (by decide) rfl (y_move rfl) ?_
                                  refine jl_pcall rfl (by decide) rfl (goes_func rfl) (fun w1 hw1 => pcall hw1 (fair_any _ _ w1 (by simp only [fits] at *; omega) (by simp only [fits] at *; omega))) ?_
                                  refine jl_y rfl (by decide) rfl (y_move rfl) ?_
                                  refine jl_y rfl (by decide) rfl (y_extract rfl rfl) ?_
                                  refine jl_y rfl (by decide) rfl (y_extract rfl rfl) ?_
                                  refine jl_as (u := .int .i64 4) (congrArg _ hfh.2) ?_
                                  refine jl_y rfl (by decide) rfl (y_assign rfl) ?_
                                  refine jl_y rfl (by decide) rfl (y_assign rfl) ?_
                                  refine jl_nil ?_
                                  refine jq_then ?_
                                  refine jc_seq ?_
                                  -- region 17
                                  refine jc_region ?_
                                  refine jl_y rfl (by decide) rfl (y_move rfl) ?_
                                  refine jl_y rfl (by decide) rfl (y_eql rfl rfl) ?_
                                  refine jl_prop (fun h93 => ?_) (fun h93 => ?_)
                                  · first
                                    | (exfalso; omega)
                                    | (
                                      refine jl_y rfl (by decide) rfl (y_move rfl) ?_
                                      refine jl_pcall rfl (by decide) rfl (goes_func rfl) (fun w1 hw1 => pcall hw1 (fixed5_any w1)) ?_
                                      refine jl_y rfl (by decide) rfl (y_pick_true rfl rfl) ?_
                                      refine jl_y rfl (by decide) rfl (y_assign rfl) ?_
                                      refine jl_nil ?_
                                      refine jq_then ?_
                                      refine jc_ret ?_
                                      refine jq_then_ret ?_
                                      refine jq_ret1 rfl rfl ?_
                                      exact fun _ hw => ⟨rfl, hw.ch⟩
                                      )
                                  · first
                                    | (exfalso; omega)
                                    | (
                                      refine jl_y rfl (by decide) rfl (y_move rfl) ?_
                                      refine jl_skip rfl (by decide) rfl ?_
                                      refine jl_y rfl (by decide) rfl (y_pick_false rfl rfl) ?_
                                      refine jl_y rfl (by decide) rfl (y_assign rfl) ?_
                                      refine jl_nil ?_
                                      refine jq_then ?_
                                      refine jc_ret ?_
                                      refine jq_then_ret ?_
                                      refine jq_ret1 rfl rfl ?_
                                      exact fun _ hw => ⟨rfl, hw.ch⟩
                                      )
                                  )
                              · first
                                | (exfalso; omega)
                                | (
                                  refine jl_nil ?_
                                  refine jq_then ?_
                                  refine jc_false rfl ?_
                                  refine jc_skip ?_
                                  refine jq_then ?_
                                  refine jc_seq ?_
                                  -- region 18
                                  refine jc_region ?_
                                  refine jl_pcall rfl (by decide) rfl (goes_func rfl) (fun w1 hw1 => pcall hw1 (fixed5_any w1)) ?_
                                  refine jl_y rfl (by decide) rfl (y_assign rfl) ?_
                                  refine jl_nil ?_
                                  refine jq_then ?_
                                  refine jc_ret ?_
                                  refine jq_ret1 rfl rfl ?_
                                  exact fun _ hw => ⟨rfl, hw.ch⟩
                                  )
                              )
                          )
                      )
                  )
              · first
                | (exfalso; omega)
                | (
                  have hk : at0 = k := by rw [hkd, if_neg h46]
                  refine jl_nil ?_
                  refine jq_then ?_
                  refine jc_false rfl ?_
                  refine jc_skip ?_
                  refine jq_then ?_
                  refine jc_seq ?_
                  -- region 9
                  refine jc_region ?_
                  refine jl_y rfl (by decide) rfl (y_move rfl) ?_
                  refine jl_y rfl (by decide) rfl (y_move rfl) ?_
                  refine jl_y rfl (by decide) rfl (y_rem rfl rfl (by omega) (by omega)) ?_
                  refine jl_as (u := .int .u64 x) (congrArg _ hx.symm) ?_
                  refine jl_y rfl (by decide) rfl (y_assign rfl) ?_
                  refine jl_nil ?_
                  refine jq_then ?_
                  refine jc_seq ?_
                  refine jc_seq ?_
                  -- region 10
                  refine jc_region ?_
                  refine jl_y rfl (by decide) rfl (y_move rfl) ?_
                  refine jl_as (u := .int .u64 k) (congrArg _ hk) ?_
                  refine jl_y rfl (by decide) rfl (y_move rfl) ?_
                  refine jl_y rfl (by decide) rfl (y_mul_u64 rfl rfl) ?_
                  refine jl_as (u := .int .u64 (k * m)) (congrArg _ (by omega)) ?_
                  refine jl_y rfl (by decide) rfl (y_move rfl) ?_
                  refine jl_y rfl (by decide) rfl (y_move rfl) ?_
                  refine jl_y rfl (by decide) rfl (y_sub_u64 rfl rfl) ?_
                  refine jl_y rfl (by decide) rfl (y_gtr rfl rfl) ?_
                  refine jl_prop (fun h60 => ?_) (fun h60 => ?_)
                  · first
                    | (exfalso; omega)
                    | (
                      refine jl_nil ?_
                      refine jq_then ?_
                      refine jc_true rfl ?_
                      refine jc_seq ?_
                      -- region 11
                      refine jc_region ?_
                      refine jl_y rfl (by decide) rfl (y_assign rfl) ?_
                      refine jl_nil ?_
                      refine jq_then ?_
                      refine jc_ret ?_
                      refine jq_then_ret ?_
                      refine jq_ret1 rfl rfl ?_
                      exact fun _ hw => ⟨rfl, hw.ch⟩
                      )
                  · first
                    | (exfalso; omega)
                    | (
                      refine jl_nil ?_
                      refine jq_then ?_
                      refine jc_false rfl ?_
                      refine jc_skip ?_
                      refine jq_then ?_
                      refine jc_seq ?_
                      -- region 12
                      refine jc_region ?_
                      refine jl_y rfl (by decide) rfl (y_move rfl) ?_
                      refine jl_as (u := .int .u64 k) (congrArg _ hk) ?_
                      refine jl_y rfl (by decide) rfl (y_move rfl) ?_
                      refine jl_y rfl (by decide) rfl (y_mul_u64 rfl rfl) ?_
                      refine jl_as (u := .int .u64 (k * m)) (congrArg _ (by omega)) ?_
                      refine jl_y rfl (by decide) rfl (y_move rfl) ?_
                      refine jl_y rfl (by decide) rfl (y_add_u64 rfl rfl) ?_
                      refine jl_as (u := .int .u64 (k * m + x)) (congrArg _ (by omega)) ?_
                      refine jl_y rfl (by decide) rfl (y_move rfl) ?_
                      refine jl_pcall rfl (by decide) rfl (goes_func rfl) (fun w1 hw1 => pcall hw1 (fair_any _ _ w1 (by simp only [fits] at *; omega) (by simp only [fits] at *; omega))) ?_
                      refine jl_y rfl (by decide) rfl (y_move rfl) ?_
                      refine jl_y rfl (by decide) rfl (y_extract rfl rfl) ?_
                      refine jl_as (u := .int .u64 x) (congrArg _ hfp.1) ?_
                      refine jl_y rfl (by decide) rfl (y_extract rfl rfl) ?_
                      refine jl_as (u := .int .i64 0) (congrArg _ hfp.2) ?_
                      refine jl_y rfl (by decide) rfl (y_assign rfl) ?_
                      refine jl_y rfl (by decide) rfl (y_assign rfl) ?_
                      refine jl_nil ?_
                      refine jq_then ?_
                      refine jc_seq ?_
                      refine jc_seq ?_
                      -- region 13
                      refine jc_region ?_
                      refine jl_y rfl (by decide) rfl (y_move rfl) ?_
                      refine jl_y rfl (by decide) rfl (y_move rfl) ?_
                      refine jl_y rfl (by decide) rfl (y_neq rfl rfl) ?_
                      refine jl_prop (fun h73 => ?_) (fun h73 => ?_)
                      · first
                        | (exfalso; omega)
                        | (
                          refine jl_y rfl (by decide) rfl (y_move rfl) ?_
                          refine jl_skip rfl (by decide) rfl ?_
                          refine jl_skip rfl (by decide) rfl ?_
                          refine jl_y rfl (by decide) rfl (y_pick_true rfl rfl) ?_
                          refine jl_nil ?_
                          refine jq_then ?_
                          refine jc_true rfl ?_
                          refine jc_seq ?_
                          -- region 14
                          refine jc_region ?_
                          refine jl_y rfl (by decide) rfl (y_assign rfl) ?_
                          refine jl_nil ?_
                          refine jq_then ?_
                          refine jc_ret ?_
                          refine jq_then_ret ?_
                          refine jq_ret1 rfl rfl ?_
                          exact fun _ hw => ⟨rfl, hw.ch⟩
                          )
                      · first
                        | (exfalso; omega)
                        | (
                          refine jl_y rfl (by decide) rfl (y_move rfl) ?_
                          refine jl_y rfl (by decide) rfl (y_move rfl) ?_
                          refine jl_y rfl (by decide) rfl (y_neq rfl rfl) ?_
                          refine jl_prop (fun h76 => ?_) (fun h76 => ?_)
                          · first
                            | (exfalso; omega)
                            | (
                              refine jl_y rfl (by decide) rfl (y_pick_false rfl rfl) ?_
                              refine jl_nil ?_
                              refine jq_then ?_
                              refine jc_true rfl ?_
                              refine jc_seq ?_
                              -- region 14
                              refine jc_region ?_
                              refine jl_y rfl (by decide) rfl (y_assign rfl) ?_
                              refine jl_nil ?_
                              refine jq_then ?_
                              refine jc_ret ?_
                              refine jq_then_ret ?_
                              refine jq_ret1 rfl rfl ?_
                              exact fun _ hw => ⟨rfl, hw.ch⟩
                              )
                          · first
                            | (exfalso; omega)
                            | (
                              refine jl_y rfl (by decide) rfl (y_pick_false rfl rfl) ?_
                              refine jl_nil ?_
                              refine jq_then ?_
                              refine jc_false rfl ?_
                              refine jc_skip ?_
                              refine jq_then ?_
                              refine jc_seq ?_
                              refine jc_seq ?_
                              -- region 15
                              refine jc_region ?_
                              refine jl_y rfl (by decide) rfl (y_move rfl) ?_
                              refine jl_y rfl (by decide) rfl (y_lss rfl rfl) ?_
                              refine jl_prop (fun h79 => ?_) (fun h79 => ?_)
                              · first
                                | (exfalso; omega)
                                | (
                                  have hg0 := Int.emod_nonneg at0 (show 18446744073709551615 - t ≠ 0 by omega)
                                  have hg1 := Int.emod_lt_of_pos at0 (show 0 < 18446744073709551615 - t by omega)
                                  have hfh := @fair_high (t + 1 + at0 % (18446744073709551615 - t)) m hmay (by omega)
                                  refine jl_nil ?_
                                  refine jq_then ?_
                                  refine jc_true rfl ?_
                                  refine jc_seq ?_
                                  -- region 16
                                  refine jc_region ?_
                                  refine jl_y rfl (by decide) rfl (y_move rfl) ?_
                                  refine jl_y rfl (by decide) rfl (y_add_u64 rfl rfl) ?_
                                  refine jl_as (u := .int .u64 (t + 1)) (congrArg _ (by omega)) ?_
                                  refine jl_y rfl (by decide) rfl (y_move rfl) ?_
                                  refine jl_y rfl (by decide) rfl (y_move rfl) ?_
                                  refine jl_y rfl (by decide) rfl (y_sub_u64 rfl rfl) ?_
                                  refine jl_as (u := .int .u64 (18446744073709551615 - t)) (congrArg _ (by omega)) ?_
                                  refine jl_y rfl (by decide) rfl (y_rem rfl rfl (by omega) (by omega)) ?_
                                  refine jl_y rfl (by decide) rfl (y_add_u64 rfl rfl) ?_
                                  refine jl_as (u := .int .u64 (t + 1 + at0 % (18446744073709551615 - t))) (congrArg _ (by omega)) ?_
                                  refine jl_y rfl (by decide) rfl (y_move rfl) ?_
                                  refine jl_pcall rfl (by decide) rfl (goes_func rfl) (fun w1 hw1 => pcall hw1 (fair_any _ _ w1 (by simp only [fits] at *; omega) (by simp only [fits] at *; omega))) ?_
                                  refine jl_y rfl (by decide) rfl (y_move rfl) ?_
                                  refine jl_y rfl (by decide) rfl (y_extract rfl rfl) ?_
                                  refine jl_y rfl (by decide) rfl (y_extract rfl rfl) ?_
                                  refine jl_as (u := .int .i64 4) (congrArg _ hfh.2) ?_
                                  refine jl_y rfl (by decide) rfl (y_assign rfl) ?_
                                  refine jl_y rfl (by decide) rfl (y_assign rfl) ?_
                                  refine jl_nil ?_
                                  refine jq_then ?_
                                  refine jc_seq ?_
                                  -- region 17
                                  refine jc_region ?_
                                  refine jl_y rfl (by decide) rfl (y_move rfl) ?_
                                  refine jl_y rfl (by decide) rfl (y_eql rfl rfl) ?_
                                  refine jl_prop (fun h93 => ?_) (fun h93 => ?_)
                                  · first
                                    | (exfalso; omega)
                                    | (
                                      refine jl_y rfl (by decide) rfl (y_move rfl) ?_
                                      refine jl_pcall rfl (by decide) rfl (goes_func rfl) (fun w1 hw1 => pcall hw1 (fixed5_any w1)) ?_
                                      refine jl_y rfl (by decide) rfl (y_pick_true rfl rfl) ?_
                                      refine jl_y rfl (by decide) rfl (y_assign rfl) ?_
                                      refine jl_nil ?_
                                      refine jq_then ?_
                                      refine jc_ret ?_
                                      refine jq_then_ret ?_
                                      refine jq_ret1 rfl rfl ?_
                                      exact fun _ hw => ⟨rfl, hw.ch⟩
                                      )
                                  · first
                                    | (exfalso; omega)
                                    | (
                                      refine jl_y rfl (by decide) rfl (y_move rfl) ?_
                                      refine jl_skip rfl (by decide) rfl ?_
                                      refine jl_y rfl (by decide) rfl (y_pick_false rfl rfl) ?_
                                      refine jl_y rfl (by decide) rfl (y_assign rfl) ?_
                                      refine jl_nil ?_
                                      refine jq_then ?_
                                      refine jc_ret ?_
                                      refine jq_then_ret ?_
                                      refine jq_ret1 rfl rfl ?_
                                      exact fun _ hw => ⟨rfl, hw.ch⟩
                                      )
                                  )
                              · first
                                | (exfalso; omega)
                                | (
                                  refine jl_nil ?_
                                  refine jq_then ?_
                                  refine jc_false rfl ?_
                                  refine jc_skip ?_
                                  refine jq_then ?_
                                  refine jc_seq ?_
                                  -- region 18
                                  refine jc_region ?_
                                  refine jl_pcall rfl (by decide) rfl (goes_func rfl) (fun w1 hw1 => pcall hw1 (fixed5_any w1)) ?_
                                  refine jl_y rfl (by decide) rfl (y_assign rfl) ?_
                                  refine jl_nil ?_
                                  refine jq_then ?_
                                  refine jc_ret ?_
                                  refine jq_ret1 rfl rfl ?_
                                  exact fun _ hw => ⟨rfl, hw.ch⟩
                                  )
                              )
                          )
                      )
                  )
              )
          )
      )

theorem drawTurns_any (o0 o1 o2 many : Int) (w : World) (h0 : fits .u64 o0) (h1 : fits .u64 o1) (h2 : fits .u64 o2) (hmn : fits .u32 many) :
    Calls Try.prog 7 #[.agg #[.int .u64 o0, .int .u64 o1, .int .u64 o2], .int .u32 many] w fun e w' => e = .returned (.bool true) ∧ Ch [] w w' := by
  simp only [fits] at *
  obtain ⟨m, hm⟩ : ∃ m : Int, m = 1 + many := ⟨_, rfl⟩
  obtain ⟨r, hr⟩ : ∃ r : Int, r = o0 % m := ⟨_, rfl⟩
  obtain ⟨ws, hws⟩ : ∃ ws : Int, ws = o2 % (m + 1) := ⟨_, rfl⟩
  obtain ⟨c, hc⟩ : ∃ c : Int, c = o1 % m := ⟨_, rfl⟩
  have hr0 := Int.emod_nonneg o0 (show m ≠ 0 by omega)
  have hr1 := Int.emod_lt_of_pos o0 (show 0 < m by omega)
  rw [← hr] at hr0 hr1
  have hw0 := Int.emod_nonneg o2 (show m + 1 ≠ 0 by omega)
  have hw2 := Int.emod_lt_of_pos o2 (show 0 < m + 1 by omega)
  rw [← hws] at hw0 hw2
  have hc0 := Int.emod_nonneg o1 (show m ≠ 0 by omega)
  have hc1 := Int.emod_lt_of_pos o1 (show 0 < m by omega)
  rw [← hc] at hc0 hc1
  have hs0 := Int.emod_nonneg (r + 1) (show m ≠ 0 by omega)
  have hs1 := Int.emod_lt_of_pos (r + 1) (show 0 < m by omega)
  have hd0 := Int.emod_nonneg (c + m - 1) (show m ≠ 0 by omega)
  have hd1 := Int.emod_lt_of_pos (c + m - 1) (show 0 < m by omega)
  have hcm : c % m = c := Int.emod_eq_of_lt hc0 hc1
  have hz0 := Int.emod_nonneg (r + c) (show m ≠ 0 by omega)
  have hz1 := Int.emod_lt_of_pos (r + c) (show 0 < m by omega)
  have w1p := @wins_pos r c ws m (by omega)
  have w2p := @wins_pos ((r + 1) % m) ((c + m - 1) % m) ws m (by omega)
  have w3p := @wins_pos r o1 ws m (by omega)
  have w4p := @wins_pos r c m m (by omega)
  have w5p := @wins_pos r c 0 m (by omega)
  rw [turn_one, hcm] at w2p
  rw [hcm] at w1p w4p w5p
  rw [← hc] at w3p
  refine calls_of (n := 122) (E := [(0, .agg #[.int .u64 o0, .int .u64 o1, .int .u64 o2]), (1, .int .u32 many)]) (W := Hp w [] []) Try.func7 rfl rfl (Nat.le_of_ble_eq_true rfl) rfl (Hp.nil _ _) ?_
  refine jc_seq ?_
  -- region 0
  refine jc_region ?_
  refine jl_m rfl (by decide) rfl (m_box rfl rfl) (fun b2 => ?_)
  refine jl_y rfl (by decide) rfl (y_assign rfl) ?_
  refine jl_nil ?_
  refine jq_then ?_
  refine jc_seq ?_
  -- region 1
  refine jc_region ?_
  refine jl_y rfl (by decide) rfl (y_move rfl) ?_
  first | refine jl_y rfl (by decide) rfl (y_conv_fits rfl (by simp only [fits]; omega)) ?_ | refine jl_y rfl (by decide) rfl (y_conv_u64 rfl) ?_
  refine jl_y rfl (by decide) rfl (y_add_u64 rfl rfl) ?_
  refine jl_as (u := .int .u64 m) (congrArg _ (by omega)) ?_
  refine jl_y rfl (by decide) rfl (y_assign rfl) ?_
  refine jl_nil ?_
  refine jq_then ?_
  refine jc_seq ?_
  -- region 2
  refine jc_region ?_
  refine jl_y rfl (by decide) rfl (y_indexAddr_arr rfl rfl (by omega) (by omega) (by simp only [Int.toNat_natCast, Int.reduceSub, Int.reduceAdd, Int.reduceToNat, Nat.reduceMul, Nat.reduceAdd, Nat.zero_add, Nat.mul_one, Nat.zero_mul, Nat.add_zero]; exact rfl)) ?_
  first | refine jl_y rfl (by decide) rfl (y_load rfl (by first | exact mem0 | exact mem1 | exact mem2 | exact mem3 | exact mem4 | exact mem5) rfl) ?_ | refine jl_y rfl (by decide) rfl (y_load_row rfl (by first | exact mem0 | exact mem1 | exact mem2 | exact mem3 | exact mem4 | exact mem5) rfl) ?_ | refine jl_y rfl (by decide) rfl (y_load_old rfl (by assumption) (by simp)) ?_
  refine jl_y rfl (by decide) rfl (y_assign rfl) ?_
  refine jl_nil ?_
  refine jq_then ?_
  refine jc_seq ?_
  -- region 3
  refine jc_draw (by kernel_rfl) (fun _ h => h.drew) ?_
  refine ju_y rfl (by decide) rfl (y_indexAddr_arr rfl rfl (by omega) (by omega) (by simp only [Int.toNat_natCast, Int.reduceSub, Int.reduceAdd, Int.reduceToNat, Nat.reduceMul, Nat.reduceAdd, Nat.zero_add, Nat.mul_one, Nat.zero_mul, Nat.add_zero]; exact rfl)) ?_
  first | refine ju_y rfl (by decide) rfl (y_load rfl (by first | exact mem0 | exact mem1 | exact mem2 | exact mem3 | exact mem4 | exact mem5) rfl) ?_ | refine ju_y rfl (by decide) rfl (y_load_row rfl (by first | exact mem0 | exact mem1 | exact mem2 | exact mem3 | exact mem4 | exact mem5) rfl) ?_ | refine ju_y rfl (by decide) rfl (y_load_old rfl (by assumption) (by simp)) ?_
  refine ju_y rfl (by decide) rfl (y_move rfl) ?_
  refine ju_y rfl (by decide) rfl (y_rem rfl rfl (by omega) (by omega)) ?_
  refine ju_as (u := .int .u64 r) (congrArg _ hr.symm) ?_
  refine ju_y rfl (by decide) rfl (y_indexAddr_arr rfl rfl (by omega) (by omega) (by simp only [Int.toNat_natCast, Int.reduceSub, Int.reduceAdd, Int.reduceToNat, Nat.reduceMul, Nat.reduceAdd, Nat.zero_add, Nat.mul_one, Nat.zero_mul, Nat.add_zero]; exact rfl)) ?_
  first | refine ju_y rfl (by decide) rfl (y_load rfl (by first | exact mem0 | exact mem1 | exact mem2 | exact mem3 | exact mem4 | exact mem5) rfl) ?_ | refine ju_y rfl (by decide) rfl (y_load_row rfl (by first | exact mem0 | exact mem1 | exact mem2 | exact mem3 | exact mem4 | exact mem5) rfl) ?_ | refine ju_y rfl (by decide) rfl (y_load_old rfl (by assumption) (by simp)) ?_
  refine ju_y rfl (by decide) rfl (y_move rfl) ?_
  refine ju_y rfl (by decide) rfl (y_add_u64 rfl rfl) ?_
  refine ju_as (u := .int .u64 (m + 1)) (congrArg _ (by omega)) ?_
  refine ju_y rfl (by decide) rfl (y_rem rfl rfl (by omega) (by omega)) ?_
  refine ju_as (u := .int .u64 ws) (congrArg _ hws.symm) ?_
  refine ju_y rfl (by decide) rfl (y_move rfl) ?_
  refine ju_y rfl (by decide) rfl (y_move rfl) ?_
  refine ju_y rfl (by decide) rfl (y_rem rfl rfl (by omega) (by omega)) ?_
  refine ju_as (u := .int .u64 c) (congrArg _ hc.symm) ?_
  refine ju_y rfl (by decide) rfl (y_assign rfl) ?_
  refine ju_y rfl (by decide) rfl (y_assign rfl) ?_
  refine ju_y rfl (by decide) rfl (y_assign rfl) ?_
  refine ju_nil ?_
  refine jq_then ?_
  refine jc_seq ?_
  -- region 4
  refine jc_region ?_
  refine jl_y rfl (by decide) rfl (y_move rfl) ?_
  refine jl_y rfl (by decide) rfl (y_move rfl) ?_
  refine jl_y rfl (by decide) rfl (y_move rfl) ?_
  refine jl_y rfl (by decide) rfl (y_move rfl) ?_
  refine jl_pcall rfl (by decide) rfl (goes_func rfl) (fun w1 hw1 => pcall hw1 (wins_any _ _ _ _ w1 (by simp only [fits] at *; omega) (by simp only [fits] at *; omega) (by simp only [fits] at *; omega) (by simp only [fits] at *; omega))) ?_
  refine jl_y rfl (by decide) rfl (y_move rfl) ?_
  refine jl_y rfl (by decide) rfl (y_extract rfl rfl) ?_
  refine jl_as (u := .bool (decide ((r + c) % m < ws))) (congrArg _ w1p.1) ?_
  refine jl_y rfl (by decide) rfl (y_extract rfl rfl) ?_
  refine jl_as (u := .int .i64 0) (congrArg _ w1p.2) ?_
  refine jl_y rfl (by decide) rfl (y_assign rfl) ?_
  refine jl_y rfl (by decide) rfl (y_assign rfl) ?_
  refine jl_nil ?_
  refine jq_then ?_
  refine jc_seq ?_
  -- region 5
  refine jc_draw (by kernel_rfl) (fun _ h => h.drew) ?_
  refine ju_y rfl (by decide) rfl (y_move rfl) ?_
  refine ju_y rfl (by decide) rfl (y_add_u64 rfl rfl) ?_
  refine ju_as (u := .int .u64 (r + 1)) (congrArg _ (by omega)) ?_
  refine ju_y rfl (by decide) rfl (y_move rfl) ?_
  refine ju_y rfl (by decide) rfl (y_rem rfl rfl (by omega) (by omega)) ?_
  refine ju_y rfl (by decide) rfl (y_move rfl) ?_
  refine ju_y rfl (by decide) rfl (y_move rfl) ?_
  refine ju_y rfl (by decide) rfl (y_add_u64 rfl rfl) ?_
  refine ju_y rfl (by decide) rfl (y_sub_u64 rfl rfl) ?_
  refine ju_as (u := .int .u64 (c + m - 1)) (congrArg _ (by omega)) ?_
  refine ju_y rfl (by decide) rfl (y_move rfl) ?_
  refine ju_y rfl (by decide) rfl (y_rem rfl rfl (by omega) (by omega)) ?_
  refine ju_y rfl (by decide) rfl (y_move rfl) ?_
  refine ju_y rfl (by decide) rfl (y_move rfl) ?_
  refine ju_call rfl (by decide) rfl (goes_func rfl) (fun w1 hw1 => pcall hw1 (wins_any _ _ _ _ w1 (by simp only [fits] at *; omega) (by simp only [fits] at *; omega) (by simp only [fits] at *; omega) (by simp only [fits] at *; omega))) ?_
  refine ju_y rfl (by decide) rfl (y_move rfl) ?_
  refine ju_y rfl (by decide) rfl (y_extract rfl rfl) ?_
  refine ju_as (u := .bool (decide ((r + c) % m < ws))) (congrArg _ w2p.1) ?_
  refine ju_y rfl (by decide) rfl (y_extract rfl rfl) ?_
  refine ju_as (u := .int .i64 0) (congrArg _ w2p.2) ?_
  refine ju_y rfl (by decide) rfl (y_assign rfl) ?_
  refine ju_y rfl (by decide) rfl (y_assign rfl) ?_
  refine ju_nil ?_
  refine jq_then ?_
  refine jc_seq ?_
  -- region 6
  refine jc_region ?_
  refine jl_y rfl (by decide) rfl (y_move rfl) ?_
  refine jl_y rfl (by decide) rfl (y_move rfl) ?_
  refine jl_y rfl (by decide) rfl (y_move rfl) ?_
  refine jl_y rfl (by decide) rfl (y_move rfl) ?_
  refine jl_pcall rfl (by decide) rfl (goes_func rfl) (fun w1 hw1 => pcall hw1 (wins_any _ _ _ _ w1 (by simp only [fits] at *; omega) (by simp only [fits] at *; omega) (by simp only [fits] at *; omega) (by simp only [fits] at *; omega))) ?_
  refine jl_y rfl (by decide) rfl (y_move rfl) ?_
  refine jl_y rfl (by decide) rfl (y_extract rfl rfl) ?_
  refine jl_as (u := .bool (decide ((r + c) % m < ws))) (congrArg _ w3p.1) ?_
  refine jl_y rfl (by decide) rfl (y_extract rfl rfl) ?_
  refine jl_as (u := .int .i64 0) (congrArg _ w3p.2) ?_
  refine jl_y rfl (by decide) rfl (y_assign rfl) ?_
  refine jl_y rfl (by decide) rfl (y_assign rfl) ?_
  refine jl_nil ?_
  refine jq_then ?_
  refine jc_seq ?_
  -- region 7
  refine jc_region ?_
  refine jl_y rfl (by decide) rfl (y_move rfl) ?_
  refine jl_y rfl (by decide) rfl (y_move rfl) ?_
  refine jl_y rfl (by decide) rfl (y_move rfl) ?_
  refine jl_y rfl (by decide) rfl (y_move rfl) ?_
  refine jl_pcall rfl (by decide) rfl (goes_func rfl) (fun w1 hw1 => pcall hw1 (wins_any _ _ _ _ w1 (by simp only [fits] at *; omega) (by simp only [fits] at *; omega) (by simp only [fits] at *; omega) (by simp only [fits] at *; omega))) ?_
  refine jl_y rfl (by decide) rfl (y_move rfl) ?_
  refine jl_y rfl (by decide) rfl (y_extract rfl rfl) ?_
  refine jl_as (u := .bool true) (congrArg _ (w4p.1.trans (decide_eq_true (by omega)))) ?_
  refine jl_y rfl (by decide) rfl (y_extract rfl rfl) ?_
  refine jl_as (u := .int .i64 0) (congrArg _ w4p.2) ?_
  refine jl_y rfl (by decide) rfl (y_assign rfl) ?_
  refine jl_y rfl (by decide) rfl (y_assign rfl) ?_
  refine jl_nil ?_
  refine jq_then ?_
  refine jc_seq ?_
  -- region 8
  refine jc_region ?_
  refine jl_y rfl (by decide) rfl (y_move rfl) ?_
  refine jl_y rfl (by decide) rfl (y_move rfl) ?_
  refine jl_y rfl (by decide) rfl (y_move rfl) ?_
  refine jl_pcall rfl (by decide) rfl (goes_func rfl) (fun w1 hw1 => pcall hw1 (wins_any _ _ _ _ w1 (by simp only [fits] at *; omega) (by simp only [fits] at *; omega) (by simp only [fits] at *; omega) (by simp only [fits] at *; omega))) ?_
  refine jl_y rfl (by decide) rfl (y_move rfl) ?_
  refine jl_y rfl (by decide) rfl (y_extract rfl rfl) ?_
  refine jl_as (u := .bool false) (congrArg _ (w5p.1.trans (decide_eq_false (by omega)))) ?_
  refine jl_y rfl (by decide) rfl (y_extract rfl rfl) ?_
  refine jl_as (u := .int .i64 0) (congrArg _ w5p.2) ?_
  refine jl_y rfl (by decide) rfl (y_assign rfl) ?_
  refine jl_y rfl (by decide) rfl (y_assign rfl) ?_
  refine jl_nil ?_
  refine jq_then ?_
  refine jc_seq ?_
  -- region 9
  refine jc_region ?_
  refine jl_y rfl (by decide) rfl (y_move rfl) ?_
  refine jl_y rfl (by decide) rfl (y_eql rfl rfl) ?_
  refine jl_prop (fun h85 => ?_) (fun h85 => ?_)
  · first
    | (exfalso; omega)
    | (
      refine jl_y rfl (by decide) rfl (y_move rfl) ?_
      refine jl_y rfl (by decide) rfl (y_move rfl) ?_
      refine jl_y rfl (by decide) rfl (y_eql rfl rfl) ?_
      refine jl_prop (fun h88 => ?_) (fun h88 => ?_)
      · first
        | (exfalso; omega)
        | (
          refine jl_y rfl (by decide) rfl (y_pick_true rfl rfl) ?_
          refine jl_y rfl (by decide) rfl (y_move rfl) ?_
          refine jl_y rfl (by decide) rfl (y_move rfl) ?_
          refine jl_y rfl (by decide) rfl (y_eql rfl rfl) ?_
          refine jl_prop (fun h92 => ?_) (fun h92 => ?_)
          · first
            | (exfalso; omega)
            | (
              refine jl_y rfl (by decide) rfl (y_pick_true rfl rfl) ?_
              refine jl_y rfl (by decide) rfl (y_move rfl) ?_
              refine jl_y rfl (by decide) rfl (y_move rfl) ?_
              refine jl_y rfl (by decide) rfl (y_eql rfl rfl) ?_
              refine jl_prop (fun h96 => ?_) (fun h96 => ?_)
              · first
                | (exfalso; omega)
                | (
                  refine jl_y rfl (by decide) rfl (y_pick_true rfl rfl) ?_
                  refine jl_y rfl (by decide) rfl (y_move rfl) ?_
                  refine jl_y rfl (by decide) rfl (y_move rfl) ?_
                  refine jl_y rfl (by decide) rfl (y_eql rfl rfl) ?_
                  refine jl_prop (fun h100 => ?_) (fun h100 => ?_)
                  · first
                    | (exfalso; omega)
                    | (
                      refine jl_y rfl (by decide) rfl (y_pick_true rfl rfl) ?_
                      refine jl_y rfl (by decide) rfl (y_move rfl) ?_
                      refine jl_y rfl (by decide) rfl (y_move rfl) ?_
                      refine jl_y rfl (by decide) rfl (y_move rfl) ?_
                      refine jl_y rfl (by decide) rfl (y_eql_bool rfl rfl) ?_
                      refine jl_as (u := .bool true) (congrArg Value.bool (by simp)) ?_
                      refine jl_y rfl (by decide) rfl (y_pick_true rfl rfl) ?_
                      refine jl_y rfl (by decide) rfl (y_move rfl) ?_
                      refine jl_y rfl (by decide) rfl (y_move rfl) ?_
                      refine jl_y rfl (by decide) rfl (y_move rfl) ?_
                      refine jl_y rfl (by decide) rfl (y_eql_bool rfl rfl) ?_
                      refine jl_as (u := .bool true) (congrArg Value.bool (by simp)) ?_
                      refine jl_y rfl (by decide) rfl (y_pick_true rfl rfl) ?_
                      refine jl_y rfl (by decide) rfl (y_move rfl) ?_
                      refine jl_y rfl (by decide) rfl (y_move rfl) ?_
                      refine jl_y rfl (by decide) rfl (y_pick_true rfl rfl) ?_
                      refine jl_y rfl (by decide) rfl (y_move rfl) ?_
                      refine jl_y rfl (by decide) rfl (y_move rfl) ?_
                      refine jl_y rfl (by decide) rfl (y_not rfl) ?_
                      refine jl_y rfl (by decide) rfl (y_pick_true rfl rfl) ?_
                      refine jl_y rfl (by decide) rfl (y_move rfl) ?_
                      refine jl_pcall rfl (by decide) rfl (goes_func rfl) (fun w1 hw1 => pcall hw1 (fixed5_any w1)) ?_
                      refine jl_y rfl (by decide) rfl (y_pick_true rfl rfl) ?_
                      refine jl_y rfl (by decide) rfl (y_assign rfl) ?_
                      refine jl_nil ?_
                      refine jq_then ?_
                      refine jc_ret ?_
                      refine jq_ret1 rfl rfl ?_
                      exact fun _ hw => ⟨rfl, hw.ch⟩
                      )
                  · first
                    | (exfalso; omega)
                    | (
                      refine jl_y rfl (by decide) rfl (y_pick_true rfl rfl) ?_
                      refine jl_y rfl (by decide) rfl (y_move rfl) ?_
                      refine jl_skip rfl (by decide) rfl ?_
                      refine jl_skip rfl (by decide) rfl ?_
                      refine jl_skip rfl (by decide) rfl ?_
                      refine jl_y rfl (by decide) rfl (y_pick_false rfl rfl) ?_
                      refine jl_y rfl (by decide) rfl (y_move rfl) ?_
                      refine jl_skip rfl (by decide) rfl ?_
                      refine jl_skip rfl (by decide) rfl ?_
                      refine jl_skip rfl (by decide) rfl ?_
                      refine jl_y rfl (by decide) rfl (y_pick_false rfl rfl) ?_
                      refine jl_y rfl (by decide) rfl (y_move rfl) ?_
                      refine jl_skip rfl (by decide) rfl ?_
                      refine jl_y rfl (by decide) rfl (y_pick_false rfl rfl) ?_
                      refine jl_y rfl (by decide) rfl (y_move rfl) ?_
                      refine jl_skip rfl (by decide) rfl ?_
                      refine jl_skip rfl (by decide) rfl ?_
                      refine jl_y rfl (by decide) rfl (y_pick_false rfl rfl) ?_
                      refine jl_y rfl (by decide) rfl (y_move rfl) ?_
                      refine jl_skip rfl (by decide) rfl ?_
                      refine jl_y rfl (by decide) rfl (y_pick_false rfl rfl) ?_
                      refine jl_y rfl (by decide) rfl (y_assign rfl) ?_
                      refine jl_nil ?_
                      refine jq_then ?_
                      refine jc_ret ?_
                      refine jq_ret1 rfl rfl ?_
                      exact fun _ hw => ⟨rfl, hw.ch⟩
                      )
                  )
              · first
                | (exfalso; omega)
                | (
                  refine jl_y rfl (by decide) rfl (y_pick_true rfl rfl) ?_
                  refine jl_y rfl (by decide) rfl (y_move rfl) ?_
                  refine jl_skip rfl (by decide) rfl ?_
                  refine jl_skip rfl (by decide) rfl ?_
                  refine jl_y rfl (by decide) rfl (y_pick_false rfl rfl) ?_
                  refine jl_y rfl (by decide) rfl (y_move rfl) ?_
                  refine jl_skip rfl (by decide) rfl ?_
                  refine jl_skip rfl (by decide) rfl ?_
                  refine jl_skip rfl (by decide) rfl ?_
                  refine jl_y rfl (by decide) rfl (y_pick_false rfl rfl) ?_
                  refine jl_y rfl (by decide) rfl (y_move rfl) ?_
                  refine jl_skip rfl (by decide) rfl ?_
                  refine jl_skip rfl (by decide) rfl ?_
                  refine jl_skip rfl (by decide) rfl ?_
                  refine jl_y rfl (by decide) rfl (y_pick_false rfl rfl) ?_
                  refine jl_y rfl (by decide) rfl (y_move rfl) ?_
                  refine jl_skip rfl (by decide) rfl ?_
                  refine jl_y rfl (by decide) rfl (y_pick_false rfl rfl) ?_
                  refine jl_y rfl (by decide) rfl (y_move rfl) ?_
                  refine jl_skip rfl (by decide) rfl ?_
                  refine jl_skip rfl (by decide) rfl ?_
                  refine jl_y rfl (by decide) rfl (y_pick_false rfl rfl) ?_
                  refine jl_y rfl (by decide) rfl (y_move rfl) ?_
                  refine jl_skip rfl (by decide) rfl ?_
                  refine jl_y rfl (by decide) rfl (y_pick_false rfl rfl) ?_
                  refine jl_y rfl (by decide) rfl (y_assign rfl) ?_
                  refine jl_nil ?_
                  refine jq_then ?_
                  refine jc_ret ?_
                  refine jq_ret1 rfl rfl ?_
                  exact fun _ hw => ⟨rfl, hw.ch⟩
                  )
              )
          · first
            | (exfalso; omega)
            | (
              refine jl_y rfl (by decide) rfl (y_pick_true rfl rfl) ?_
              refine jl_y rfl (by decide) rfl (y_move rfl) ?_
              refine jl_skip rfl (by decide) rfl ?_
              refine jl_skip rfl (by decide) rfl ?_
              refine jl_y rfl (by decide) rfl (y_pick_false rfl rfl) ?_
              refine jl_y rfl (by decide) rfl (y_move rfl) ?_
              refine jl_skip rfl (by decide) rfl ?_
              refine jl_skip rfl (by decide) rfl ?_
              refine jl_y rfl (by decide) rfl (y_pick_false rfl rfl) ?_
              refine jl_y rfl (by decide) rfl (y_move rfl) ?_
              refine jl_skip rfl (by decide) rfl ?_
              refine jl_skip rfl (by decide) rfl ?_
              refine jl_skip rfl (by decide) rfl ?_
              refine jl_y rfl (by decide) rfl (y_pick_false rfl rfl) ?_
              refine jl_y rfl (by decide) rfl (y_move rfl) ?_
              refine jl_skip rfl (by decide) rfl ?_
              refine jl_skip rfl (by decide) rfl ?_
              refine jl_skip rfl (by decide) rfl ?_
              refine jl_y rfl (by decide) rfl (y_pick_false rfl rfl) ?_
              refine jl_y rfl (by decide) rfl (y_move rfl) ?_
              refine jl_skip rfl (by decide) rfl ?_
              refine jl_y rfl (by decide) rfl (y_pick_false rfl rfl) ?_
              refine jl_y rfl (by decide) rfl (y_move rfl) ?_
              refine jl_skip rfl (by decide) rfl ?_
              refine jl_skip rfl (by decide) rfl ?_
              refine jl_y rfl (by decide) rfl (y_pick_false rfl rfl) ?_
              refine jl_y rfl (by decide) rfl (y_move rfl) ?_
              refine jl_skip rfl (by decide) rfl ?_
              refine jl_y rfl (by decide) rfl (y_pick_false rfl rfl) ?_
              refine jl_y rfl (by decide) rfl (y_assign rfl) ?_
              refine jl_nil ?_
              refine jq_then ?_
              refine jc_ret ?_
              refine jq_ret1 rfl rfl ?_
              exact fun _ hw => ⟨rfl, hw.ch⟩
              )
          )
      · first
        | (exfalso; omega)
        | (
          refine jl_y rfl (by decide) rfl (y_pick_true rfl rfl) ?_
          refine jl_y rfl (by decide) rfl (y_move rfl) ?_
          refine jl_skip rfl (by decide) rfl ?_
          refine jl_skip rfl (by decide) rfl ?_
          refine jl_y rfl (by decide) rfl (y_pick_false rfl rfl) ?_
          refine jl_y rfl (by decide) rfl (y_move rfl) ?_
          refine jl_skip rfl (by decide) rfl ?_
          refine jl_skip rfl (by decide) rfl ?_
          refine jl_y rfl (by decide) rfl (y_pick_false rfl rfl) ?_
          refine jl_y rfl (by decide) rfl (y_move rfl) ?_
          refine jl_skip rfl (by decide) rfl ?_
          refine jl_skip rfl (by decide) rfl ?_
          refine jl_y rfl (by decide) rfl (y_pick_false rfl rfl) ?_
          refine jl_y rfl (by decide) rfl (y_move rfl) ?_
          refine jl_skip rfl (by decide) rfl ?_
          refine jl_skip rfl (by decide) rfl ?_
          refine jl_skip rfl (by decide) rfl ?_
          refine jl_y rfl (by decide) rfl (y_pick_false rfl rfl) ?_
          refine jl_y rfl (by decide) rfl (y_move rfl) ?_
          refine jl_skip rfl (by decide) rfl ?_
          refine jl_skip rfl (by decide) rfl ?_
          refine jl_skip rfl (by decide) rfl ?_
          refine jl_y rfl (by decide) rfl (y_pick_false rfl rfl) ?_
          refine jl_y rfl (by decide) rfl (y_move rfl) ?_
          refine jl_skip rfl (by decide) rfl ?_
          refine jl_y rfl (by decide) rfl (y_pick_false rfl rfl) ?_
          refine jl_y rfl (by decide) rfl (y_move rfl) ?_
          refine jl_skip rfl (by decide) rfl ?_
          refine jl_skip rfl (by decide) rfl ?_
          refine jl_y rfl (by decide) rfl (y_pick_false rfl rfl) ?_
          refine jl_y rfl (by decide) rfl (y_move rfl) ?_
          refine jl_skip rfl (by decide) rfl ?_
          refine jl_y rfl (by decide) rfl (y_pick_false rfl rfl) ?_
          refine jl_y rfl (by decide) rfl (y_assign rfl) ?_
          refine jl_nil ?_
          refine jq_then ?_
          refine jc_ret ?_
          refine jq_ret1 rfl rfl ?_
          exact fun _ hw => ⟨rfl, hw.ch⟩
          )
      )
  · first
    | (exfalso; omega)
    | (
      refine jl_y rfl (by decide) rfl (y_move rfl) ?_
      refine jl_skip rfl (by decide) rfl ?_
      refine jl_skip rfl (by decide) rfl ?_
      refine jl_y rfl (by decide) rfl (y_pick_false rfl rfl) ?_
      refine jl_y rfl (by decide) rfl (y_move rfl) ?_
      refine jl_skip rfl (by decide) rfl ?_
      refine jl_skip rfl (by decide) rfl ?_
      refine jl_y rfl (by decide) rfl (y_pick_false rfl rfl) ?_
      refine jl_y rfl (by decide) rfl (y_move rfl) ?_
      refine jl_skip rfl (by decide) rfl ?_
      refine jl_skip rfl (by decide) rfl ?_
      refine jl_y rfl (by decide) rfl (y_pick_false rfl rfl) ?_
      refine jl_y rfl (by decide) rfl (y_move rfl) ?_
      refine jl_skip rfl (by decide) rfl ?_
      refine jl_skip rfl (by decide) rfl ?_
      refine jl_y rfl (by decide) rfl (y_pick_false rfl rfl) ?_
      refine jl_y rfl (by decide) rfl (y_move rfl) ?_
      refine jl_skip rfl (by decide) rfl ?_
      refine jl_skip rfl (by decide) rfl ?_
      refine jl_skip rfl (by decide) rfl ?_
      refine jl_y rfl (by decide) rfl (y_pick_false rfl rfl) ?_
      refine jl_y rfl (by decide) rfl (y_move rfl) ?_
      refine jl_skip rfl (by decide) rfl ?_
      refine jl_skip rfl (by decide) rfl ?_
      refine jl_skip rfl (by decide) rfl ?_
      refine jl_y rfl (by decide) rfl (y_pick_false rfl rfl) ?_
      refine jl_y rfl (by decide) rfl (y_move rfl) ?_
      refine jl_skip rfl (by decide) rfl ?_
      refine jl_y rfl (by decide) rfl (y_pick_false rfl rfl) ?_
      refine jl_y rfl (by decide) rfl (y_move rfl) ?_
      refine jl_skip rfl (by decide) rfl ?_
      refine jl_skip rfl (by decide) rfl ?_
      refine jl_y rfl (by decide) rfl (y_pick_false rfl rfl) ?_
      refine jl_y rfl (by decide) rfl (y_move rfl) ?_
      refine jl_skip rfl (by decide) rfl ?_
      refine jl_y rfl (by decide) rfl (y_pick_false rfl rfl) ?_
      refine jl_y rfl (by decide) rfl (y_assign rfl) ?_
      refine jl_nil ?_
      refine jq_then ?_
      refine jc_ret ?_
      refine jq_ret1 rfl rfl ?_
      exact fun _ hw => ⟨rfl, hw.ch⟩
      )

theorem drawShares_any (face x0 x1 x2 : Int) (w : World) (hf : fits .u64 face) (h0 : fits .u16 x0) (h1 : fits .u16 x1) (h2 : fits .u16 x2) :
    Calls Try.prog 8 #[.int .u64 face, .agg #[.int .u16 x0, .int .u16 x1, .int .u16 x2]] w fun e w' => e = .returned (.bool true) ∧ Ch [] w w' := by
  simp only [fits] at *
  obtain ⟨m, hm⟩ : ∃ m : Int, m = 1 + x0 % 1000 := ⟨_, rfl⟩
  obtain ⟨a, ha⟩ : ∃ a : Int, a = x1 % (m + 1) := ⟨_, rfl⟩
  have ha0 := Int.emod_nonneg x1 (show m + 1 ≠ 0 by omega)
  have ha1 := Int.emod_lt_of_pos x1 (show 0 < m + 1 by omega)
  rw [← ha] at ha0 ha1
  obtain ⟨b, hb⟩ : ∃ b : Int, b = x2 % (m - a + 1) := ⟨_, rfl⟩
  have hb0 := Int.emod_nonneg x2 (show m - a + 1 ≠ 0 by omega)
  have hb1 := Int.emod_lt_of_pos x2 (show 0 < m - a + 1 by omega)
  rw [← hb] at hb0 hb1
  have hall := @all_face face m (by omega)
  have hap := @nom_pos face m m (by omega) hall.1
  rw [hall.2] at hap
  have nao := fun h => @nom_odd face a m (by omega) h
  have nap := fun h => @nom_pos face a m (by omega) h
  have nbo := fun h => @nom_odd face b m (by omega) h
  have nbp := fun h => @nom_pos face b m (by omega) h
  have hsh := fun h h9 => @shares face a b m h h9 (by omega)
  have hnl := @nom_le face (a + b) m (by omega) (by omega)
  have hna : 0 ≤ face * a / m := Int.ediv_nonneg (Int.mul_nonneg (by omega) (by omega)) (by omega)
  have hnb : 0 ≤ face * b / m := Int.ediv_nonneg (Int.mul_nonneg (by omega) (by omega)) (by omega)
  refine calls_of (n := 107) (E := [(0, .int .u64 face), (1, .agg #[.int .u16 x0, .int .u16 x1, .int .u16 x2])]) (W := Hp w [] []) Try.func8 rfl rfl (Nat.le_of_ble_eq_true rfl) rfl (Hp.nil _ _) ?_
  refine jc_seq ?_
  -- region 0
  refine jc_region ?_
  refine jl_m rfl (by decide) rfl (m_box rfl rfl) (fun b3 => ?_)
  refine jl_y rfl (by decide) rfl (y_assign rfl) ?_
  refine jl_nil ?_
  refine jq_then ?_
  refine jc_seq ?_
  -- region 1
  refine jc_region ?_
  refine jl_y rfl (by decide) rfl (y_indexAddr_arr rfl rfl (by omega) (by omega) (by simp only [Int.toNat_natCast, Int.reduceSub, Int.reduceAdd, Int.reduceToNat, Nat.reduceMul, Nat.reduceAdd, Nat.zero_add, Nat.mul_one, Nat.zero_mul, Nat.add_zero]; exact rfl)) ?_
  first | refine jl_y rfl (by decide) rfl (y_load rfl (by first | exact mem0 | exact mem1 | exact mem2 | exact mem3 | exact mem4 | exact mem5) rfl) ?_ | refine jl_y rfl (by decide) rfl (y_load_row rfl (by first | exact mem0 | exact mem1 | exact mem2 | exact mem3 | exact mem4 | exact mem5) rfl) ?_ | refine jl_y rfl (by decide) rfl (y_load_old rfl (by assumption) (by simp)) ?_
  first | refine jl_y rfl (by decide) rfl (y_conv_fits rfl (by simp only [fits]; omega)) ?_ | refine jl_y rfl (by decide) rfl (y_conv_u64 rfl) ?_
  refine jl_y rfl (by decide) rfl (y_rem rfl rfl (by omega) (by omega)) ?_
  refine jl_y rfl (by decide) rfl (y_add_u64 rfl rfl) ?_
  refine jl_as (u := .int .u64 m) (congrArg _ (by omega)) ?_
  refine jl_y rfl (by decide) rfl (y_assign rfl) ?_
  refine jl_nil ?_
  refine jq_then ?_
  refine jc_seq ?_
  -- region 2
  refine jc_region ?_
  refine jl_y rfl (by decide) rfl (y_indexAddr_arr rfl rfl (by omega) (by omega) (by simp only [Int.toNat_natCast, Int.reduceSub, Int.reduceAdd, Int.reduceToNat, Nat.reduceMul, Nat.reduceAdd, Nat.zero_add, Nat.mul_one, Nat.zero_mul, Nat.add_zero]; exact rfl)) ?_
  first | refine jl_y rfl (by decide) rfl (y_load rfl (by first | exact mem0 | exact mem1 | exact mem2 | exact mem3 | exact mem4 | exact mem5) rfl) ?_ | refine jl_y rfl (by decide) rfl (y_load_row rfl (by first | exact mem0 | exact mem1 | exact mem2 | exact mem3 | exact mem4 | exact mem5) rfl) ?_ | refine jl_y rfl (by decide) rfl (y_load_old rfl (by assumption) (by simp)) ?_
  first | refine jl_y rfl (by decide) rfl (y_conv_fits rfl (by simp only [fits]; omega)) ?_ | refine jl_y rfl (by decide) rfl (y_conv_u64 rfl) ?_
  refine jl_y rfl (by decide) rfl (y_move rfl) ?_
  refine jl_y rfl (by decide) rfl (y_add_u64 rfl rfl) ?_
  refine jl_as (u := .int .u64 (m + 1)) (congrArg _ (by omega)) ?_
  refine jl_y rfl (by decide) rfl (y_rem rfl rfl (by omega) (by omega)) ?_
  refine jl_as (u := .int .u64 a) (congrArg _ ha.symm) ?_
  refine jl_y rfl (by decide) rfl (y_assign rfl) ?_
  refine jl_nil ?_
  refine jq_then ?_
  refine jc_seq ?_
  -- region 3
  refine jc_region ?_
  refine jl_y rfl (by decide) rfl (y_indexAddr_arr rfl rfl (by omega) (by omega) (by simp only [Int.toNat_natCast, Int.reduceSub, Int.reduceAdd, Int.reduceToNat, Nat.reduceMul, Nat.reduceAdd, Nat.zero_add, Nat.mul_one, Nat.zero_mul, Nat.add_zero]; exact rfl)) ?_
  first | refine jl_y rfl (by decide) rfl (y_load rfl (by first | exact mem0 | exact mem1 | exact mem2 | exact mem3 | exact mem4 | exact mem5) rfl) ?_ | refine jl_y rfl (by decide) rfl (y_load_row rfl (by first | exact mem0 | exact mem1 | exact mem2 | exact mem3 | exact mem4 | exact mem5) rfl) ?_ | refine jl_y rfl (by decide) rfl (y_load_old rfl (by assumption) (by simp)) ?_
  first | refine jl_y rfl (by decide) rfl (y_conv_fits rfl (by simp only [fits]; omega)) ?_ | refine jl_y rfl (by decide) rfl (y_conv_u64 rfl) ?_
  refine jl_y rfl (by decide) rfl (y_move rfl) ?_
  refine jl_y rfl (by decide) rfl (y_move rfl) ?_
  refine jl_y rfl (by decide) rfl (y_sub_u64 rfl rfl) ?_
  refine jl_as (u := .int .u64 (m - a)) (congrArg _ (by omega)) ?_
  refine jl_y rfl (by decide) rfl (y_add_u64 rfl rfl) ?_
  refine jl_as (u := .int .u64 (m - a + 1)) (congrArg _ (by omega)) ?_
  refine jl_y rfl (by decide) rfl (y_rem rfl rfl (by omega) (by omega)) ?_
  refine jl_as (u := .int .u64 b) (congrArg _ hb.symm) ?_
  refine jl_y rfl (by decide) rfl (y_assign rfl) ?_
  refine jl_nil ?_
  refine jq_then ?_
  refine jc_seq ?_
  -- region 4
  refine jc_region ?_
  refine jl_y rfl (by decide) rfl (y_move rfl) ?_
  refine jl_y rfl (by decide) rfl (y_move rfl) ?_
  refine jl_y rfl (by decide) rfl (y_move rfl) ?_
  refine jl_pcall rfl (by decide) rfl (goes_func rfl) (fun w1 hw1 => pcall hw1 (nominal_any _ _ _ w1 (by simp only [fits] at *; omega) (by simp only [fits] at *; omega) (by simp only [fits] at *; omega))) ?_
  refine jl_y rfl (by decide) rfl (y_move rfl) ?_
  refine jl_y rfl (by decide) rfl (y_extract rfl rfl) ?_
  refine jl_y rfl (by decide) rfl (y_extract rfl rfl) ?_
  refine jl_y rfl (by decide) rfl (y_assign rfl) ?_
  refine jl_y rfl (by decide) rfl (y_assign rfl) ?_
  refine jl_nil ?_
  refine jq_then ?_
  refine jc_seq ?_
  -- region 5
  refine jc_region ?_
  refine jl_y rfl (by decide) rfl (y_move rfl) ?_
  refine jl_y rfl (by decide) rfl (y_move rfl) ?_
  refine jl_y rfl (by decide) rfl (y_move rfl) ?_
  refine jl_pcall rfl (by decide) rfl (goes_func rfl) (fun w1 hw1 => pcall hw1 (nominal_any _ _ _ w1 (by simp only [fits] at *; omega) (by simp only [fits] at *; omega) (by simp only [fits] at *; omega))) ?_
  refine jl_y rfl (by decide) rfl (y_move rfl) ?_
  refine jl_y rfl (by decide) rfl (y_extract rfl rfl) ?_
  refine jl_y rfl (by decide) rfl (y_extract rfl rfl) ?_
  refine jl_y rfl (by decide) rfl (y_assign rfl) ?_
  refine jl_y rfl (by decide) rfl (y_assign rfl) ?_
  refine jl_nil ?_
  refine jq_then ?_
  refine jc_seq ?_
  -- region 6
  refine jc_region ?_
  refine jl_y rfl (by decide) rfl (y_move rfl) ?_
  refine jl_y rfl (by decide) rfl (y_move rfl) ?_
  refine jl_y rfl (by decide) rfl (y_move rfl) ?_
  refine jl_y rfl (by decide) rfl (y_add_u64 rfl rfl) ?_
  refine jl_as (u := .int .u64 (a + b)) (congrArg _ (by omega)) ?_
  refine jl_y rfl (by decide) rfl (y_move rfl) ?_
  refine jl_pcall rfl (by decide) rfl (goes_func rfl) (fun w1 hw1 => pcall hw1 (nominal_any _ _ _ w1 (by simp only [fits] at *; omega) (by simp only [fits] at *; omega) (by simp only [fits] at *; omega))) ?_
  refine jl_y rfl (by decide) rfl (y_move rfl) ?_
  refine jl_y rfl (by decide) rfl (y_extract rfl rfl) ?_
  refine jl_y rfl (by decide) rfl (y_extract rfl rfl) ?_
  refine jl_y rfl (by decide) rfl (y_assign rfl) ?_
  refine jl_y rfl (by decide) rfl (y_assign rfl) ?_
  refine jl_nil ?_
  refine jq_then ?_
  refine jc_seq ?_
  -- region 7
  refine jc_region ?_
  refine jl_y rfl (by decide) rfl (y_move rfl) ?_
  refine jl_y rfl (by decide) rfl (y_move rfl) ?_
  refine jl_y rfl (by decide) rfl (y_move rfl) ?_
  refine jl_pcall rfl (by decide) rfl (goes_func rfl) (fun w1 hw1 => pcall hw1 (nominal_any _ _ _ w1 (by simp only [fits] at *; omega) (by simp only [fits] at *; omega) (by simp only [fits] at *; omega))) ?_
  refine jl_y rfl (by decide) rfl (y_move rfl) ?_
  refine jl_y rfl (by decide) rfl (y_extract rfl rfl) ?_
  refine jl_as (u := .int .u64 face) (congrArg _ hap.1) ?_
  refine jl_y rfl (by decide) rfl (y_extract rfl rfl) ?_
  refine jl_as (u := .int .i64 0) (congrArg _ hap.2) ?_
  refine jl_y rfl (by decide) rfl (y_assign rfl) ?_
  refine jl_y rfl (by decide) rfl (y_assign rfl) ?_
  refine jl_nil ?_
  refine jq_then ?_
  refine jc_seq ?_
  refine jc_seq ?_
  -- region 8
  refine jc_region ?_
  refine jl_y rfl (by decide) rfl (y_move rfl) ?_
  refine jl_y rfl (by decide) rfl (y_neq rfl rfl) ?_
  refine jl_prop (fun h66 => ?_) (fun h66 => ?_)
  · first
    | (exfalso; omega)
    | (
      refine jl_y rfl (by decide) rfl (y_move rfl) ?_
      refine jl_skip rfl (by decide) rfl ?_
      refine jl_skip rfl (by decide) rfl ?_
      refine jl_skip rfl (by decide) rfl ?_
      refine jl_y rfl (by decide) rfl (y_pick_true rfl rfl) ?_
      refine jl_nil ?_
      refine jq_then ?_
      refine jc_true rfl ?_
      refine jc_seq ?_
      -- region 9
      refine jc_region ?_
      refine jl_y rfl (by decide) rfl (y_assign rfl) ?_
      refine jl_nil ?_
      refine jq_then ?_
      refine jc_ret ?_
      refine jq_then_ret ?_
      refine jq_ret1 rfl rfl ?_
      exact fun _ hw => ⟨rfl, hw.ch⟩
      )
  · first
    | (exfalso; omega)
    | (
      refine jl_y rfl (by decide) rfl (y_move rfl) ?_
      refine jl_y rfl (by decide) rfl (y_move rfl) ?_
      refine jl_y rfl (by decide) rfl (y_move rfl) ?_
      refine jl_y rfl (by decide) rfl (y_neq rfl rfl) ?_
      refine jl_prop (fun h70 => ?_) (fun h70 => ?_)
      · first
        | (exfalso; omega)
        | (
          refine jl_y rfl (by decide) rfl (y_pick_false rfl rfl) ?_
          refine jl_nil ?_
          refine jq_then ?_
          refine jc_true rfl ?_
          refine jc_seq ?_
          -- region 9
          refine jc_region ?_
          refine jl_y rfl (by decide) rfl (y_assign rfl) ?_
          refine jl_nil ?_
          refine jq_then ?_
          refine jc_ret ?_
          refine jq_then_ret ?_
          refine jq_ret1 rfl rfl ?_
          exact fun _ hw => ⟨rfl, hw.ch⟩
          )
      · first
        | (exfalso; omega)
        | (
          refine jl_y rfl (by decide) rfl (y_pick_false rfl rfl) ?_
          refine jl_nil ?_
          refine jq_then ?_
          refine jc_false rfl ?_
          refine jc_skip ?_
          refine jq_then ?_
          refine jc_seq ?_
          refine jc_seq ?_
          -- region 10
          have eA : nomE face a m = 0 ∨ nomE face a m = 4 := (Decidable.em (0 < face * a % m)).elim (fun h => .inr (nao h).2) (fun h => .inl (nap h).2)
          have eB : nomE face b m = 0 ∨ nomE face b m = 4 := (Decidable.em (0 < face * b % m)).elim (fun h => .inr (nbo h).2) (fun h => .inl (nbp h).2)
          refine jc_region ?_
          refine jl_y rfl (by decide) rfl (y_move rfl) ?_
          refine jl_y rfl (by decide) rfl (y_eql rfl rfl) ?_
          refine jl_prop (fun h73 => ?_) (fun h73 => ?_)
          · first
            | (exfalso; omega)
            | (
              refine jl_y rfl (by decide) rfl (y_move rfl) ?_
              refine jl_y rfl (by decide) rfl (y_move rfl) ?_
              refine jl_y rfl (by decide) rfl (y_eql rfl rfl) ?_
              refine jl_prop (fun h76 => ?_) (fun h76 => ?_)
              · first
                | (exfalso; omega)
                | (
                  refine jl_y rfl (by decide) rfl (y_pick_true rfl rfl) ?_
                  refine jl_nil ?_
                  refine jq_then ?_
                  refine jc_true rfl ?_
                  refine jc_seq ?_
                  -- region 11
                  have ea : ¬ 0 < face * a % m := fun h => by have := (nao h).2; omega
                  have eb : ¬ 0 < face * b % m := fun h => by have := (nbo h).2; omega
                  have es := hsh ea eb
                  have ep := @nom_pos face (a + b) m (by omega) es.1
                  have ep1 := ep.1
                  have ep2 := ep.2
                  have ap := (nap ea).1
                  have bp := (nbp eb).1
                  have es2 := es.2
                  refine jc_region ?_
                  refine jl_y rfl (by decide) rfl (y_move rfl) ?_
                  refine jl_y rfl (by decide) rfl (y_eql rfl rfl) ?_
                  refine jl_prop (fun h79 => ?_) (fun h79 => ?_)
                  · first
                    | (exfalso; omega)
                    | (
                      refine jl_y rfl (by decide) rfl (y_move rfl) ?_
                      refine jl_y rfl (by decide) rfl (y_move rfl) ?_
                      refine jl_y rfl (by decide) rfl (y_move rfl) ?_
                      refine jl_y rfl (by decide) rfl (y_add_u64 rfl rfl) ?_
                      refine jl_y rfl (by decide) rfl (y_move rfl) ?_
                      refine jl_y rfl (by decide) rfl (y_eql rfl rfl) ?_
                      refine jl_prop (fun h85 => ?_) (fun h85 => ?_)
                      · first
                        | (exfalso; omega)
                        | (
                          refine jl_y rfl (by decide) rfl (y_pick_true rfl rfl) ?_
                          refine jl_y rfl (by decide) rfl (y_move rfl) ?_
                          refine jl_pcall rfl (by decide) rfl (goes_func rfl) (fun w1 hw1 => pcall hw1 (fixed5_any w1)) ?_
                          refine jl_y rfl (by decide) rfl (y_pick_true rfl rfl) ?_
                          refine jl_y rfl (by decide) rfl (y_assign rfl) ?_
                          refine jl_nil ?_
                          refine jq_then ?_
                          refine jc_ret ?_
                          refine jq_then_ret ?_
                          refine jq_ret1 rfl rfl ?_
                          exact fun _ hw => ⟨rfl, hw.ch⟩
                          )
                      · first
                        | (exfalso; omega)
                        | (
                          refine jl_y rfl (by decide) rfl (y_pick_true rfl rfl) ?_
                          refine jl_y rfl (by decide) rfl (y_move rfl) ?_
                          refine jl_skip rfl (by decide) rfl ?_
                          refine jl_y rfl (by decide) rfl (y_pick_false rfl rfl) ?_
                          refine jl_y rfl (by decide) rfl (y_assign rfl) ?_
                          refine jl_nil ?_
                          refine jq_then ?_
                          refine jc_ret ?_
                          refine jq_then_ret ?_
                          refine jq_ret1 rfl rfl ?_
                          exact fun _ hw => ⟨rfl, hw.ch⟩
                          )
                      )
                  · first
                    | (exfalso; omega)
                    | (
                      refine jl_y rfl (by decide) rfl (y_move rfl) ?_
                      refine jl_skip rfl (by decide) rfl ?_
                      refine jl_skip rfl (by decide) rfl ?_
                      refine jl_skip rfl (by decide) rfl ?_
                      refine jl_skip rfl (by decide) rfl ?_
                      refine jl_skip rfl (by decide) rfl ?_
                      refine jl_y rfl (by decide) rfl (y_pick_false rfl rfl) ?_
                      refine jl_y rfl (by decide) rfl (y_move rfl) ?_
                      refine jl_skip rfl (by decide) rfl ?_
                      refine jl_y rfl (by decide) rfl (y_pick_false rfl rfl) ?_
                      refine jl_y rfl (by decide) rfl (y_assign rfl) ?_
                      refine jl_nil ?_
                      refine jq_then ?_
                      refine jc_ret ?_
                      refine jq_then_ret ?_
                      refine jq_ret1 rfl rfl ?_
                      exact fun _ hw => ⟨rfl, hw.ch⟩
                      )
                  )
              · first
                | (exfalso; omega)
                | (
                  refine jl_y rfl (by decide) rfl (y_pick_true rfl rfl) ?_
                  refine jl_nil ?_
                  refine jq_then ?_
                  refine jc_false rfl ?_
                  refine jc_skip ?_
                  refine jq_then ?_
                  refine jc_seq ?_
                  -- region 12
                  refine jc_region ?_
                  refine jl_y rfl (by decide) rfl (y_move rfl) ?_
                  refine jl_y rfl (by decide) rfl (y_eql rfl rfl) ?_
                  refine jl_prop (fun h91 => ?_) (fun h91 => ?_)
                  · first
                    | (exfalso; omega)
                    | (
                      refine jl_y rfl (by decide) rfl (y_move rfl) ?_
                      refine jl_skip rfl (by decide) rfl ?_
                      refine jl_skip rfl (by decide) rfl ?_
                      refine jl_y rfl (by decide) rfl (y_pick_true rfl rfl) ?_
                      refine jl_y rfl (by decide) rfl (y_move rfl) ?_
                      refine jl_y rfl (by decide) rfl (y_move rfl) ?_
                      refine jl_y rfl (by decide) rfl (y_eql rfl rfl) ?_
                      refine jl_prop (fun h98 => ?_) (fun h98 => ?_)
                      · first
                        | (exfalso; omega)
                        | (
                          refine jl_y rfl (by decide) rfl (y_move rfl) ?_
                          refine jl_skip rfl (by decide) rfl ?_
                          refine jl_skip rfl (by decide) rfl ?_
                          refine jl_y rfl (by decide) rfl (y_pick_true rfl rfl) ?_
                          refine jl_y rfl (by decide) rfl (y_pick_true rfl rfl) ?_
                          refine jl_y rfl (by decide) rfl (y_move rfl) ?_
                          refine jl_pcall rfl (by decide) rfl (goes_func rfl) (fun w1 hw1 => pcall hw1 (fixed5_any w1)) ?_
                          refine jl_y rfl (by decide) rfl (y_pick_true rfl rfl) ?_
                          refine jl_y rfl (by decide) rfl (y_assign rfl) ?_
                          refine jl_nil ?_
                          refine jq_then ?_
                          refine jc_ret ?_
                          refine jq_ret1 rfl rfl ?_
                          exact fun _ hw => ⟨rfl, hw.ch⟩
                          )
                      · first
                        | (exfalso; omega)
                        | (
                          refine jl_y rfl (by decide) rfl (y_move rfl) ?_
                          refine jl_y rfl (by decide) rfl (y_move rfl) ?_
                          refine jl_y rfl (by decide) rfl (y_eql rfl rfl) ?_
                          refine jl_prop (fun h101 => ?_) (fun h101 => ?_)
                          · first
                            | (exfalso; omega)
                            | (
                              refine jl_y rfl (by decide) rfl (y_pick_false rfl rfl) ?_
                              refine jl_y rfl (by decide) rfl (y_pick_true rfl rfl) ?_
                              refine jl_y rfl (by decide) rfl (y_move rfl) ?_
                              refine jl_pcall rfl (by decide) rfl (goes_func rfl) (fun w1 hw1 => pcall hw1 (fixed5_any w1)) ?_
                              refine jl_y rfl (by decide) rfl (y_pick_true rfl rfl) ?_
                              refine jl_y rfl (by decide) rfl (y_assign rfl) ?_
                              refine jl_nil ?_
                              refine jq_then ?_
                              refine jc_ret ?_
                              refine jq_ret1 rfl rfl ?_
                              exact fun _ hw => ⟨rfl, hw.ch⟩
                              )
                          · first
                            | (exfalso; omega)
                            | (
                              refine jl_y rfl (by decide) rfl (y_pick_false rfl rfl) ?_
                              refine jl_y rfl (by decide) rfl (y_pick_true rfl rfl) ?_
                              refine jl_y rfl (by decide) rfl (y_move rfl) ?_
                              refine jl_skip rfl (by decide) rfl ?_
                              refine jl_y rfl (by decide) rfl (y_pick_false rfl rfl) ?_
                              refine jl_y rfl (by decide) rfl (y_assign rfl) ?_
                              refine jl_nil ?_
                              refine jq_then ?_
                              refine jc_ret ?_
                              refine jq_ret1 rfl rfl ?_
                              exact fun _ hw => ⟨rfl, hw.ch⟩
                              )
                          )
                      )
                  · first
                    | (exfalso; omega)
                    | (
                      refine jl_y rfl (by decide) rfl (y_move rfl) ?_
                      refine jl_y rfl (by decide) rfl (y_move rfl) ?_
                      refine jl_y rfl (by decide) rfl (y_eql rfl rfl) ?_
                      refine jl_prop (fun h94 => ?_) (fun h94 => ?_)
                      · first
                        | (exfalso; omega)
                        | (
                          refine jl_y rfl (by decide) rfl (y_pick_false rfl rfl) ?_
                          refine jl_y rfl (by decide) rfl (y_move rfl) ?_
                          refine jl_y rfl (by decide) rfl (y_move rfl) ?_
                          refine jl_y rfl (by decide) rfl (y_eql rfl rfl) ?_
                          refine jl_prop (fun h98 => ?_) (fun h98 => ?_)
                          · first
                            | (exfalso; omega)
                            | (
                              refine jl_y rfl (by decide) rfl (y_move rfl) ?_
                              refine jl_skip rfl (by decide) rfl ?_
                              refine jl_skip rfl (by decide) rfl ?_
                              refine jl_y rfl (by decide) rfl (y_pick_true rfl rfl) ?_
                              refine jl_y rfl (by decide) rfl (y_pick_true rfl rfl) ?_
                              refine jl_y rfl (by decide) rfl (y_move rfl) ?_
                              refine jl_pcall rfl (by decide) rfl (goes_func rfl) (fun w1 hw1 => pcall hw1 (fixed5_any w1)) ?_
                              refine jl_y rfl (by decide) rfl (y_pick_true rfl rfl) ?_
                              refine jl_y rfl (by decide) rfl (y_assign rfl) ?_
                              refine jl_nil ?_
                              refine jq_then ?_
                              refine jc_ret ?_
                              refine jq_ret1 rfl rfl ?_
                              exact fun _ hw => ⟨rfl, hw.ch⟩
                              )
                          · first
                            | (exfalso; omega)
                            | (
                              refine jl_y rfl (by decide) rfl (y_move rfl) ?_
                              refine jl_y rfl (by decide) rfl (y_move rfl) ?_
                              refine jl_y rfl (by decide) rfl (y_eql rfl rfl) ?_
                              refine jl_prop (fun h101 => ?_) (fun h101 => ?_)
                              · first
                                | (exfalso; omega)
                                | (
                                  refine jl_y rfl (by decide) rfl (y_pick_false rfl rfl) ?_
                                  refine jl_y rfl (by decide) rfl (y_pick_true rfl rfl) ?_
                                  refine jl_y rfl (by decide) rfl (y_move rfl) ?_
                                  refine jl_pcall rfl (by decide) rfl (goes_func rfl) (fun w1 hw1 => pcall hw1 (fixed5_any w1)) ?_
                                  refine jl_y rfl (by decide) rfl (y_pick_true rfl rfl) ?_
                                  refine jl_y rfl (by decide) rfl (y_assign rfl) ?_
                                  refine jl_nil ?_
                                  refine jq_then ?_
                                  refine jc_ret ?_
                                  refine jq_ret1 rfl rfl ?_
                                  exact fun _ hw => ⟨rfl, hw.ch⟩
                                  )
                              · first
                                | (exfalso; omega)
                                | (
                                  refine jl_y rfl (by decide) rfl (y_pick_false rfl rfl) ?_
                                  refine jl_y rfl (by decide) rfl (y_pick_true rfl rfl) ?_
                                  refine jl_y rfl (by decide) rfl (y_move rfl) ?_
                                  refine jl_skip rfl (by decide) rfl ?_
                                  refine jl_y rfl (by decide) rfl (y_pick_false rfl rfl) ?_
                                  refine jl_y rfl (by decide) rfl (y_assign rfl) ?_
                                  refine jl_nil ?_
                                  refine jq_then ?_
                                  refine jc_ret ?_
                                  refine jq_ret1 rfl rfl ?_
                                  exact fun _ hw => ⟨rfl, hw.ch⟩
                                  )
                              )
                          )
                      · first
                        | (exfalso; omega)
                        | (
                          refine jl_y rfl (by decide) rfl (y_pick_false rfl rfl) ?_
                          refine jl_y rfl (by decide) rfl (y_move rfl) ?_
                          refine jl_skip rfl (by decide) rfl ?_
                          refine jl_skip rfl (by decide) rfl ?_
                          refine jl_skip rfl (by decide) rfl ?_
                          refine jl_skip rfl (by decide) rfl ?_
                          refine jl_skip rfl (by decide) rfl ?_
                          refine jl_skip rfl (by decide) rfl ?_
                          refine jl_y rfl (by decide) rfl (y_pick_false rfl rfl) ?_
                          refine jl_y rfl (by decide) rfl (y_move rfl) ?_
                          refine jl_skip rfl (by decide) rfl ?_
                          refine jl_y rfl (by decide) rfl (y_pick_false rfl rfl) ?_
                          refine jl_y rfl (by decide) rfl (y_assign rfl) ?_
                          refine jl_nil ?_
                          refine jq_then ?_
                          refine jc_ret ?_
                          refine jq_ret1 rfl rfl ?_
                          exact fun _ hw => ⟨rfl, hw.ch⟩
                          )
                      )
                  )
              )
          · first
            | (exfalso; omega)
            | (
              refine jl_y rfl (by decide) rfl (y_move rfl) ?_
              refine jl_skip rfl (by decide) rfl ?_
              refine jl_skip rfl (by decide) rfl ?_
              refine jl_y rfl (by decide) rfl (y_pick_false rfl rfl) ?_
              refine jl_nil ?_
              refine jq_then ?_
              refine jc_false rfl ?_
              refine jc_skip ?_
              refine jq_then ?_
              refine jc_seq ?_
              -- region 12
              refine jc_region ?_
              refine jl_y rfl (by decide) rfl (y_move rfl) ?_
              refine jl_y rfl (by decide) rfl (y_eql rfl rfl) ?_
              refine jl_prop (fun h91 => ?_) (fun h91 => ?_)
              · first
                | (exfalso; omega)
                | (
                  refine jl_y rfl (by decide) rfl (y_move rfl) ?_
                  refine jl_skip rfl (by decide) rfl ?_
                  refine jl_skip rfl (by decide) rfl ?_
                  refine jl_y rfl (by decide) rfl (y_pick_true rfl rfl) ?_
                  refine jl_y rfl (by decide) rfl (y_move rfl) ?_
                  refine jl_y rfl (by decide) rfl (y_move rfl) ?_
                  refine jl_y rfl (by decide) rfl (y_eql rfl rfl) ?_
                  refine jl_prop (fun h98 => ?_) (fun h98 => ?_)
                  · first
                    | (exfalso; omega)
                    | (
                      refine jl_y rfl (by decide) rfl (y_move rfl) ?_
                      refine jl_skip rfl (by decide) rfl ?_
                      refine jl_skip rfl (by decide) rfl ?_
                      refine jl_y rfl (by decide) rfl (y_pick_true rfl rfl) ?_
                      refine jl_y rfl (by decide) rfl (y_pick_true rfl rfl) ?_
                      refine jl_y rfl (by decide) rfl (y_move rfl) ?_
                      refine jl_pcall rfl (by decide) rfl (goes_func rfl) (fun w1 hw1 => pcall hw1 (fixed5_any w1)) ?_
                      refine jl_y rfl (by decide) rfl (y_pick_true rfl rfl) ?_
                      refine jl_y rfl (by decide) rfl (y_assign rfl) ?_
                      refine jl_nil ?_
                      refine jq_then ?_
                      refine jc_ret ?_
                      refine jq_ret1 rfl rfl ?_
                      exact fun _ hw => ⟨rfl, hw.ch⟩
                      )
                  · first
                    | (exfalso; omega)
                    | (
                      refine jl_y rfl (by decide) rfl (y_move rfl) ?_
                      refine jl_y rfl (by decide) rfl (y_move rfl) ?_
                      refine jl_y rfl (by decide) rfl (y_eql rfl rfl) ?_
                      refine jl_prop (fun h101 => ?_) (fun h101 => ?_)
                      · first
                        | (exfalso; omega)
                        | (
                          refine jl_y rfl (by decide) rfl (y_pick_false rfl rfl) ?_
                          refine jl_y rfl (by decide) rfl (y_pick_true rfl rfl) ?_
                          refine jl_y rfl (by decide) rfl (y_move rfl) ?_
                          refine jl_pcall rfl (by decide) rfl (goes_func rfl) (fun w1 hw1 => pcall hw1 (fixed5_any w1)) ?_
                          refine jl_y rfl (by decide) rfl (y_pick_true rfl rfl) ?_
                          refine jl_y rfl (by decide) rfl (y_assign rfl) ?_
                          refine jl_nil ?_
                          refine jq_then ?_
                          refine jc_ret ?_
                          refine jq_ret1 rfl rfl ?_
                          exact fun _ hw => ⟨rfl, hw.ch⟩
                          )
                      · first
                        | (exfalso; omega)
                        | (
                          refine jl_y rfl (by decide) rfl (y_pick_false rfl rfl) ?_
                          refine jl_y rfl (by decide) rfl (y_pick_true rfl rfl) ?_
                          refine jl_y rfl (by decide) rfl (y_move rfl) ?_
                          refine jl_skip rfl (by decide) rfl ?_
                          refine jl_y rfl (by decide) rfl (y_pick_false rfl rfl) ?_
                          refine jl_y rfl (by decide) rfl (y_assign rfl) ?_
                          refine jl_nil ?_
                          refine jq_then ?_
                          refine jc_ret ?_
                          refine jq_ret1 rfl rfl ?_
                          exact fun _ hw => ⟨rfl, hw.ch⟩
                          )
                      )
                  )
              · first
                | (exfalso; omega)
                | (
                  refine jl_y rfl (by decide) rfl (y_move rfl) ?_
                  refine jl_y rfl (by decide) rfl (y_move rfl) ?_
                  refine jl_y rfl (by decide) rfl (y_eql rfl rfl) ?_
                  refine jl_prop (fun h94 => ?_) (fun h94 => ?_)
                  · first
                    | (exfalso; omega)
                    | (
                      refine jl_y rfl (by decide) rfl (y_pick_false rfl rfl) ?_
                      refine jl_y rfl (by decide) rfl (y_move rfl) ?_
                      refine jl_y rfl (by decide) rfl (y_move rfl) ?_
                      refine jl_y rfl (by decide) rfl (y_eql rfl rfl) ?_
                      refine jl_prop (fun h98 => ?_) (fun h98 => ?_)
                      · first
                        | (exfalso; omega)
                        | (
                          refine jl_y rfl (by decide) rfl (y_move rfl) ?_
                          refine jl_skip rfl (by decide) rfl ?_
                          refine jl_skip rfl (by decide) rfl ?_
                          refine jl_y rfl (by decide) rfl (y_pick_true rfl rfl) ?_
                          refine jl_y rfl (by decide) rfl (y_pick_true rfl rfl) ?_
                          refine jl_y rfl (by decide) rfl (y_move rfl) ?_
                          refine jl_pcall rfl (by decide) rfl (goes_func rfl) (fun w1 hw1 => pcall hw1 (fixed5_any w1)) ?_
                          refine jl_y rfl (by decide) rfl (y_pick_true rfl rfl) ?_
                          refine jl_y rfl (by decide) rfl (y_assign rfl) ?_
                          refine jl_nil ?_
                          refine jq_then ?_
                          refine jc_ret ?_
                          refine jq_ret1 rfl rfl ?_
                          exact fun _ hw => ⟨rfl, hw.ch⟩
                          )
                      · first
                        | (exfalso; omega)
                        | (
                          refine jl_y rfl (by decide) rfl (y_move rfl) ?_
                          refine jl_y rfl (by decide) rfl (y_move rfl) ?_
                          refine jl_y rfl (by decide) rfl (y_eql rfl rfl) ?_
                          refine jl_prop (fun h101 => ?_) (fun h101 => ?_)
                          · first
                            | (exfalso; omega)
                            | (
                              refine jl_y rfl (by decide) rfl (y_pick_false rfl rfl) ?_
                              refine jl_y rfl (by decide) rfl (y_pick_true rfl rfl) ?_
                              refine jl_y rfl (by decide) rfl (y_move rfl) ?_
                              refine jl_pcall rfl (by decide) rfl (goes_func rfl) (fun w1 hw1 => pcall hw1 (fixed5_any w1)) ?_
                              refine jl_y rfl (by decide) rfl (y_pick_true rfl rfl) ?_
                              refine jl_y rfl (by decide) rfl (y_assign rfl) ?_
                              refine jl_nil ?_
                              refine jq_then ?_
                              refine jc_ret ?_
                              refine jq_ret1 rfl rfl ?_
                              exact fun _ hw => ⟨rfl, hw.ch⟩
                              )
                          · first
                            | (exfalso; omega)
                            | (
                              refine jl_y rfl (by decide) rfl (y_pick_false rfl rfl) ?_
                              refine jl_y rfl (by decide) rfl (y_pick_true rfl rfl) ?_
                              refine jl_y rfl (by decide) rfl (y_move rfl) ?_
                              refine jl_skip rfl (by decide) rfl ?_
                              refine jl_y rfl (by decide) rfl (y_pick_false rfl rfl) ?_
                              refine jl_y rfl (by decide) rfl (y_assign rfl) ?_
                              refine jl_nil ?_
                              refine jq_then ?_
                              refine jc_ret ?_
                              refine jq_ret1 rfl rfl ?_
                              exact fun _ hw => ⟨rfl, hw.ch⟩
                              )
                          )
                      )
                  · first
                    | (exfalso; omega)
                    | (
                      refine jl_y rfl (by decide) rfl (y_pick_false rfl rfl) ?_
                      refine jl_y rfl (by decide) rfl (y_move rfl) ?_
                      refine jl_skip rfl (by decide) rfl ?_
                      refine jl_skip rfl (by decide) rfl ?_
                      refine jl_skip rfl (by decide) rfl ?_
                      refine jl_skip rfl (by decide) rfl ?_
                      refine jl_skip rfl (by decide) rfl ?_
                      refine jl_skip rfl (by decide) rfl ?_
                      refine jl_y rfl (by decide) rfl (y_pick_false rfl rfl) ?_
                      refine jl_y rfl (by decide) rfl (y_move rfl) ?_
                      refine jl_skip rfl (by decide) rfl ?_
                      refine jl_y rfl (by decide) rfl (y_pick_false rfl rfl) ?_
                      refine jl_y rfl (by decide) rfl (y_assign rfl) ?_
                      refine jl_nil ?_
                      refine jq_then ?_
                      refine jc_ret ?_
                      refine jq_ret1 rfl rfl ?_
                      exact fun _ hw => ⟨rfl, hw.ch⟩
                      )
                  )
              )
          )
      )

end Go.Proofs.Ytafckmfahfkcpaa