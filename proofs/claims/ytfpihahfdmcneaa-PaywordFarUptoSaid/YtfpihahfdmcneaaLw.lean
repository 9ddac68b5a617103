/- The walks of the laws of layer 4. Written by program (walk.py) out of a table of contracts and invariants. -/
import Derived.Test.YtfpihahfdmcneaaPy
import Derived.Test.YtfpihahfdmcneaaLb
namespace Go.Proofs.Ytfpihahfdmcneaa
open Go.RowKit
set_option maxRecDepth 100000
set_option linter.unusedVariables false
set_option linter.unusedSimpArgs false
def sS : ByteArray := ⟨#[115]⟩
def sT : ByteArray := ⟨#[116]⟩
def sHex16 : ByteArray := ⟨#[48, 49, 50, 51, 52, 53, 54, 55, 56, 57, 97, 98, 99, 100, 101, 102]⟩
theorem bAdd {x : Int} (h : fits .u8 x) : 0 ≤ x ∧ x ≤ 255 := h

theorem fixed4_any (w : World) :
    Calls Try.prog 9 #[] w fun e w' => e = .returned (.bool true) ∧ Ch [] w w' := by
  have hk := @cnt_tok sS 3 2 3 (by decide) (by decide) (by decide)
  have hl := @cnt_less (tokS sS 3 0) (tokS sS 3 2) 1 3 (tokS_size _ _ _) (tokS_size _ _ _) (by decide) (by decide) (by decide)
  have hn := @cnt_bad ⟨#[]⟩ (tokS sS 3 2) 1 (by decide)
  have hn2 := hn.2
  refine calls_of (n := 167) (E := []) (W := Hp w [] []) Try.func9 rfl rfl (Nat.le_of_ble_eq_true rfl) rfl (Hp.nil _ _) ?_
  refine jc_seq ?_
  -- region 0
  refine jc_region ?_
  refine jl_y rfl (by decide) rfl (y_assign rfl) ?_
  refine jl_nil ?_
  refine jq_then ?_
  refine jc_seq ?_
  -- region 1
  refine jc_region ?_
  refine jl_kcall rfl (by decide) rfl (goes_func rfl) (fun w1 hw1 => new_ok (sS) (3) w1 (by decide) (by decide) (by decide)) (fun bc wc hbc hcc => ?_)
  refine jl_y rfl (by decide) rfl (y_move rfl) ?_
  refine jl_y rfl (by decide) rfl (y_extract rfl rfl) ?_
  refine jl_y rfl (by decide) rfl (y_extract rfl rfl) ?_
  refine jl_y rfl (by decide) rfl (y_assign rfl) ?_
  refine jl_y rfl (by decide) rfl (y_assign rfl) ?_
  refine jl_nil ?_
  refine jq_then ?_
  refine jc_seq ?_
  -- region 2
  refine jc_region ?_
  refine jl_pcall rfl (by decide) rfl (goes_func rfl) (fun w1 hw1 => pcall hw1 (new_bad sS 0 w1 (by decide))) ?_
  refine jl_y rfl (by decide) rfl (y_move rfl) ?_
  refine jl_y rfl (by decide) rfl (y_extract rfl rfl) ?_
  refine jl_y rfl (by decide) rfl (y_extract rfl rfl) ?_
  refine jl_y rfl (by decide) rfl (y_assign rfl) ?_
  refine jl_y rfl (by decide) rfl (y_assign rfl) ?_
  refine jl_nil ?_
  refine jq_then ?_
  refine jc_seq ?_
  refine jc_seq ?_
  -- region 3
  refine jc_region ?_
  refine jl_y rfl (by decide) rfl (y_move rfl) ?_
  refine jl_y rfl (by decide) rfl (y_eql_nil rfl rfl) ?_
  refine jl_as (u := .bool false) rfl ?_
  refine jl_y rfl (by decide) rfl (y_move rfl) ?_
  refine jl_y rfl (by decide) rfl (y_move rfl) ?_
  refine jl_y rfl (by decide) rfl (y_neq rfl rfl) ?_
  refine jl_prop (fun h35 => ?_) (fun h35 => ?_)
  · first
    | (exfalso; omega)
    | (
      refine jl_y rfl (by decide) rfl (y_pick_false rfl rfl) ?_
      refine jl_nil ?_
      refine jq_then ?_
      refine jc_true rfl ?_
      refine jc_seq ?_
      -- region 4
      refine jc_region ?_
      refine jl_y rfl (by decide) rfl (y_assign rfl) ?_
      refine jl_nil ?_
      refine jq_then ?_
      refine jc_ret ?_
      refine jq_then_ret ?_
      refine jq_ret1 rfl rfl ?_
      exact fun _ hw => ⟨rfl, (hbc.ch.then hw.ch)⟩
      )
  · first
    | (exfalso; omega)
    | (
      refine jl_y rfl (by decide) rfl (y_pick_false rfl rfl) ?_
      refine jl_nil ?_
      refine jq_then ?_
      refine jc_false rfl ?_
      refine jc_skip ?_
      refine jq_then ?_
      refine jc_seq ?_
      -- region 5
      refine jc_region ?_
      refine jl_y rfl (by decide) rfl (y_move rfl) ?_
      refine jl_pcall rfl (by decide) rfl (goes_func rfl) (fun w1 hw1 => pcall hw1 (token_any _ sS 3 w1 (hcc.keep hw1) 2)) ?_
      refine jl_y rfl (by decide) rfl (y_move rfl) ?_
      refine jl_y rfl (by decide) rfl (y_extract rfl rfl) ?_
      refine jl_as (u := .string (tokS sS 3 2)) (congrArg Value.string (tok_in (by decide)).1) ?_
      refine jl_y rfl (by decide) rfl (y_extract rfl rfl) ?_
      refine jl_as (u := .int .i64 0) (congrArg (Value.int .i64) (@tok_in sS 3 _ (by decide)).2) ?_
      refine jl_y rfl (by decide) rfl (y_assign rfl) ?_
      refine jl_y rfl (by decide) rfl (y_assign rfl) ?_
      refine jl_nil ?_
      refine jq_then ?_
      refine jc_seq ?_
      -- region 6
      refine jc_region ?_
      refine jl_y rfl (by decide) rfl (y_move rfl) ?_
      refine jl_pcall rfl (by decide) rfl (goes_func rfl) (fun w1 hw1 => pcall hw1 (token_any _ sS 3 w1 (hcc.keep hw1) 3)) ?_
      refine jl_y rfl (by decide) rfl (y_move rfl) ?_
      refine jl_y rfl (by decide) rfl (y_extract rfl rfl) ?_
      refine jl_as (u := .string (tokS sS 3 3)) (congrArg Value.string (tok_in (by decide)).1) ?_
      refine jl_y rfl (by decide) rfl (y_extract rfl rfl) ?_
      refine jl_as (u := .int .i64 0) (congrArg (Value.int .i64) (@tok_in sS 3 _ (by decide)).2) ?_
      refine jl_y rfl (by decide) rfl (y_assign rfl) ?_
      refine jl_y rfl (by decide) rfl (y_assign rfl) ?_
      refine jl_nil ?_
      refine jq_then ?_
      refine jc_seq ?_
      -- region 7
      refine jc_region ?_
      refine jl_y rfl (by decide) rfl (y_move rfl) ?_
      refine jl_pcall rfl (by decide) rfl (goes_func rfl) (fun w1 hw1 => pcall hw1 (token_any _ sS 3 w1 (hcc.keep hw1) 4)) ?_
      refine jl_y rfl (by decide) rfl (y_move rfl) ?_
      refine jl_y rfl (by decide) rfl (y_extract rfl rfl) ?_
      refine jl_y rfl (by decide) rfl (y_extract rfl rfl) ?_
      refine jl_as (u := .int .i64 1) (congrArg (Value.int .i64) (@tok_out sS 3 4 (by decide)).2) ?_
      refine jl_y rfl (by decide) rfl (y_assign rfl) ?_
      refine jl_y rfl (by decide) rfl (y_assign rfl) ?_
      refine jl_nil ?_
      refine jq_then ?_
      refine jc_seq ?_
      -- region 8
      refine jc_region ?_
      refine jl_y rfl (by decide) rfl (y_move rfl) ?_
      refine jl_pcall rfl (by decide) rfl (goes_func rfl) (fun w1 hw1 => pcall hw1 (anchor_any _ sS 3 w1 (hcc.keep hw1))) ?_
      refine jl_y rfl (by decide) rfl (y_move rfl) ?_
      refine jl_pcall rfl (by decide) rfl (goes_func rfl) (fun w1 hw1 => pcall hw1 (count_any _ _ _ w1 (by simp only [fits]; decide))) ?_
      refine jl_y rfl (by decide) rfl (y_move rfl) ?_
      refine jl_y rfl (by decide) rfl (y_extract rfl rfl) ?_
      refine jl_y rfl (by decide) rfl (y_extract rfl rfl) ?_
      refine jl_y rfl (by decide) rfl (y_assign rfl) ?_
      refine jl_y rfl (by decide) rfl (y_assign rfl) ?_
      refine jl_nil ?_
      refine jq_then ?_
      refine jc_seq ?_
      -- region 9
      refine jc_region ?_
      refine jl_y rfl (by decide) rfl (y_move rfl) ?_
      refine jl_pcall rfl (by decide) rfl (goes_func rfl) (fun w1 hw1 => pcall hw1 (anchor_any _ sS 3 w1 (hcc.keep hw1))) ?_
      refine jl_y rfl (by decide) rfl (y_move rfl) ?_
      refine jl_pcall rfl (by decide) rfl (goes_func rfl) (fun w1 hw1 => pcall hw1 (count_any _ _ _ w1 (by simp only [fits]; decide))) ?_
      refine jl_y rfl (by decide) rfl (y_move rfl) ?_
      refine jl_y rfl (by decide) rfl (y_extract rfl rfl) ?_
      refine jl_y rfl (by decide) rfl (y_extract rfl rfl) ?_
      refine jl_y rfl (by decide) rfl (y_assign rfl) ?_
      refine jl_y rfl (by decide) rfl (y_assign rfl) ?_
      refine jl_nil ?_
      refine jq_then ?_
      refine jc_seq ?_
      -- region 10
      refine jc_region ?_
      refine jl_y rfl (by decide) rfl (y_move rfl) ?_
      refine jl_pcall rfl (by decide) rfl (goes_func rfl) (fun w1 hw1 => pcall hw1 (count_any _ _ _ w1 (by simp only [fits]; decide))) ?_
      refine jl_y rfl (by decide) rfl (y_move rfl) ?_
      refine jl_y rfl (by decide) rfl (y_extract rfl rfl) ?_
      refine jl_y rfl (by decide) rfl (y_extract rfl rfl) ?_
      refine jl_y rfl (by decide) rfl (y_assign rfl) ?_
      refine jl_y rfl (by decide) rfl (y_assign rfl) ?_
      refine jl_nil ?_
      refine jq_then ?_
      refine jc_seq ?_
      -- region 11
      refine jc_region ?_
      refine jl_pcall rfl (by decide) rfl (goes_func rfl) (fun w1 hw1 => pcall hw1 (value_any _ _ w1 (by simp only [fits]; decide) (by simp only [fits]; decide))) ?_
      refine jl_y rfl (by decide) rfl (y_move rfl) ?_
      refine jl_y rfl (by decide) rfl (y_extract rfl rfl) ?_
      refine jl_as (u := .int .u64 15) (congrArg (Value.int .u64) (by decide +kernel)) ?_
      refine jl_y rfl (by decide) rfl (y_extract rfl rfl) ?_
      refine jl_as (u := .int .i64 0) (congrArg (Value.int .i64) (by decide +kernel)) ?_
      refine jl_y rfl (by decide) rfl (y_assign rfl) ?_
      refine jl_y rfl (by decide) rfl (y_assign rfl) ?_
      refine jl_nil ?_
      refine jq_then ?_
      refine jc_seq ?_
      -- region 12
      refine jc_region ?_
      refine jl_pcall rfl (by decide) rfl (goes_func rfl) (fun w1 hw1 => pcall hw1 (value_any _ _ w1 (by simp only [fits]; decide) (by simp only [fits]; decide))) ?_
      refine jl_y rfl (by decide) rfl (y_move rfl) ?_
      refine jl_y rfl (by decide) rfl (y_extract rfl rfl) ?_
      refine jl_y rfl (by decide) rfl (y_extract rfl rfl) ?_
      refine jl_as (u := .int .i64 2) (congrArg (Value.int .i64) (by decide +kernel)) ?_
      refine jl_y rfl (by decide) rfl (y_assign rfl) ?_
      refine jl_y rfl (by decide) rfl (y_assign rfl) ?_
      refine jl_nil ?_
      refine jq_then ?_
      refine jc_seq ?_
      -- region 13
      refine jc_region ?_
      refine jl_pcall rfl (by decide) rfl (goes_func rfl) (fun w1 hw1 => pcall hw1 (value_any _ _ w1 (by simp only [fits]; decide) (by simp only [fits]; decide))) ?_
      refine jl_y rfl (by decide) rfl (y_move rfl) ?_
      refine jl_y rfl (by decide) rfl (y_extract rfl rfl) ?_
      refine jl_y rfl (by decide) rfl (y_extract rfl rfl) ?_
      refine jl_as (u := .int .i64 2) (congrArg (Value.int .i64) (by decide +kernel)) ?_
      refine jl_y rfl (by decide) rfl (y_assign rfl) ?_
      refine jl_y rfl (by decide) rfl (y_assign rfl) ?_
      refine jl_nil ?_
      refine jq_then ?_
      refine jc_seq ?_
      -- region 14
      refine jc_region ?_
      refine jl_y rfl (by decide) rfl (y_move rfl) ?_
      refine jl_y rfl (by decide) rfl (y_eql rfl rfl) ?_
      refine jl_prop (fun h84 => ?_) (fun h84 => ?_)
      · first
        | (exfalso; omega)
        | (
          refine jl_y rfl (by decide) rfl (y_move rfl) ?_
          refine jl_y rfl (by decide) rfl (y_move rfl) ?_
          refine jl_y rfl (by decide) rfl (y_eql rfl rfl) ?_
          refine jl_prop (fun h87 => ?_) (fun h87 => ?_)
          · first
            | (exfalso; omega)
            | (
              refine jl_y rfl (by decide) rfl (y_pick_true rfl rfl) ?_
              refine jl_y rfl (by decide) rfl (y_move rfl) ?_
              refine jl_y rfl (by decide) rfl (y_move rfl) ?_
              refine jl_y rfl (by decide) rfl (y_eql rfl rfl) ?_
              refine jl_prop (fun h91 => ?_) (fun h91 => ?_)
              · first
                | (exfalso; omega)
                | (
                  refine jl_y rfl (by decide) rfl (y_pick_true rfl rfl) ?_
                  refine jl_y rfl (by decide) rfl (y_move rfl) ?_
                  refine jl_y rfl (by decide) rfl (y_move rfl) ?_
                  refine jl_y rfl (by decide) rfl (y_eql rfl rfl) ?_
                  refine jl_prop (fun h95 => ?_) (fun h95 => ?_)
                  · first
                    | (exfalso; omega)
                    | (
                      refine jl_y rfl (by decide) rfl (y_pick_true rfl rfl) ?_
                      refine jl_y rfl (by decide) rfl (y_move rfl) ?_
                      refine jl_y rfl (by decide) rfl (y_move rfl) ?_
                      refine jl_y rfl (by decide) rfl (y_leq rfl rfl) ?_
                      refine jl_prop (fun h99 => ?_) (fun h99 => ?_)
                      · first
                        | (exfalso; omega)
                        | (
                          refine jl_y rfl (by decide) rfl (y_pick_true rfl rfl) ?_
                          refine jl_y rfl (by decide) rfl (y_move rfl) ?_
                          refine jl_y rfl (by decide) rfl (y_move rfl) ?_
                          refine jl_y rfl (by decide) rfl (y_eql rfl rfl) ?_
                          refine jl_prop (fun h103 => ?_) (fun h103 => ?_)
                          · first
                            | (exfalso; omega)
                            | (
                              refine jl_y rfl (by decide) rfl (y_pick_true rfl rfl) ?_
                              refine jl_y rfl (by decide) rfl (y_move rfl) ?_
                              refine jl_y rfl (by decide) rfl (y_move rfl) ?_
                              refine jl_y rfl (by decide) rfl (y_eql rfl rfl) ?_
                              refine jl_prop (fun h107 => ?_) (fun h107 => ?_)
                              · first
                                | (exfalso; omega)
                                | (
                                  refine jl_y rfl (by decide) rfl (y_move rfl) ?_
                                  refine jl_skip rfl (by decide) rfl ?_
                                  refine jl_skip rfl (by decide) rfl ?_
                                  refine jl_y rfl (by decide) rfl (y_pick_true rfl rfl) ?_
                                  refine jl_y rfl (by decide) rfl (y_pick_true rfl rfl) ?_
                                  refine jl_y rfl (by decide) rfl (y_move rfl) ?_
                                  refine jl_y rfl (by decide) rfl (y_move rfl) ?_
                                  refine jl_y rfl (by decide) rfl (y_eql rfl rfl) ?_
                                  refine jl_prop (fun h115 => ?_) (fun h115 => ?_)
                                  · first
                                    | (exfalso; omega)
                                    | (
                                      refine jl_y rfl (by decide) rfl (y_pick_true rfl rfl) ?_
                                      refine jl_y rfl (by decide) rfl (y_move rfl) ?_
                                      refine jl_y rfl (by decide) rfl (y_move rfl) ?_
                                      refine jl_y rfl (by decide) rfl (y_eql rfl rfl) ?_
                                      refine jl_prop (fun h119 => ?_) (fun h119 => ?_)
                                      · first
                                        | (exfalso; omega)
                                        | (
                                          refine jl_y rfl (by decide) rfl (y_pick_true rfl rfl) ?_
                                          refine jl_y rfl (by decide) rfl (y_move rfl) ?_
                                          refine jl_y rfl (by decide) rfl (y_move rfl) ?_
                                          refine jl_y rfl (by decide) rfl (y_eql rfl rfl) ?_
                                          refine jl_prop (fun h123 => ?_) (fun h123 => ?_)
                                          · first
                                            | (exfalso; omega)
                                            | (
                                              refine jl_y rfl (by decide) rfl (y_pick_true rfl rfl) ?_
                                              refine jl_y rfl (by decide) rfl (y_move rfl) ?_
                                              refine jl_y rfl (by decide) rfl (y_move rfl) ?_
                                              refine jl_y rfl (by decide) rfl (y_eql rfl rfl) ?_
                                              refine jl_prop (fun h127 => ?_) (fun h127 => ?_)
                                              · first
                                                | (exfalso; omega)
                                                | (
                                                  refine jl_y rfl (by decide) rfl (y_pick_true rfl rfl) ?_
                                                  refine jl_y rfl (by decide) rfl (y_move rfl) ?_
                                                  refine jl_y rfl (by decide) rfl (y_move rfl) ?_
                                                  refine jl_y rfl (by decide) rfl (y_eql rfl rfl) ?_
                                                  refine jl_prop (fun h131 => ?_) (fun h131 => ?_)
                                                  · first
                                                    | (exfalso; omega)
                                                    | (
                                                      refine jl_y rfl (by decide) rfl (y_pick_true rfl rfl) ?_
                                                      refine jl_y rfl (by decide) rfl (y_move rfl) ?_
                                                      refine jl_y rfl (by decide) rfl (y_move rfl) ?_
                                                      refine jl_m rfl (by decide) rfl (m_buildSlice (by decide) (Built.cell rfl rfl rfl (by repeat constructor) Built.nil)) (fun b135 => ?_)
                                                      refine jl_pcall rfl (by decide) rfl (goes_func rfl) (fun w1 hw1 => pcall hw1 (tag_any strSeeded (some ⟨b135, 0, none⟩) 1 [sS] w1 (by decide) (by simp) (all1 (by decide)) (Strs.of_row (hw1.get mem0)))) ?_
                                                      refine jl_y rfl (by decide) rfl (y_seql rfl rfl) ?_
                                                      refine jl_as (u := .bool true) (congrArg (fun b => Value.bool b) (decide_eq_true (tok_last sS 3))) ?_
                                                      refine jl_y rfl (by decide) rfl (y_pick_true rfl rfl) ?_
                                                      refine jl_y rfl (by decide) rfl (y_move rfl) ?_
                                                      refine jl_y rfl (by decide) rfl (y_move rfl) ?_
                                                      refine jl_pcall rfl (by decide) rfl (goes_func rfl) (fun w1 hw1 => pcall hw1 (next_any _ w1 (by first | omega | decide | (rw [farN_size (by omega)]; decide) | (rw [tokS_size]; decide) | (rw [tagS_size]; decide)))) ?_
                                                      refine jl_y rfl (by decide) rfl (y_move rfl) ?_
                                                      refine jl_y rfl (by decide) rfl (y_seql rfl rfl) ?_
                                                      refine jl_as (u := .bool true) (congrArg (fun b => Value.bool b) (decide_eq_true (@tok_next sS 3 2 (by decide)))) ?_
                                                      refine jl_y rfl (by decide) rfl (y_pick_true rfl rfl) ?_
                                                      refine jl_y rfl (by decide) rfl (y_move rfl) ?_
                                                      refine jl_pcall rfl (by decide) rfl (goes_func rfl) (fun w1 hw1 => pcall hw1 (next_any _ w1 (by first | omega | decide | (rw [farN_size (by omega)]; decide) | (rw [tokS_size]; decide) | (rw [tagS_size]; decide)))) ?_
                                                      refine jl_m rfl (by decide) rfl (m_buildSlice (by decide) (Built.cell rfl rfl rfl (by repeat constructor) Built.nil)) (fun b147 => ?_)
                                                      refine jl_pcall rfl (by decide) rfl (goes_func rfl) (fun w1 hw1 => pcall hw1 (tag_any strPayword (some ⟨b147, 0, none⟩) 1 [sT] w1 (by decide) (by simp) (all1 (by decide)) (Strs.of_row (hw1.get mem0)))) ?_
                                                      refine jl_y rfl (by decide) rfl (y_seql rfl rfl) ?_
                                                      refine jl_as (u := .bool true) (congrArg (fun b => Value.bool b) (decide_eq_true (rfl))) ?_
                                                      refine jl_y rfl (by decide) rfl (y_pick_true rfl rfl) ?_
                                                      refine jl_y rfl (by decide) rfl (y_move rfl) ?_
                                                      refine jl_y rfl (by decide) rfl (y_move rfl) ?_
                                                      refine jl_pcall rfl (by decide) rfl (goes_func rfl) (fun w1 hw1 => pcall hw1 (len_any _ sS 3 w1 (hcc.keep hw1) (by decide))) ?_
                                                      refine jl_y rfl (by decide) rfl (y_eql rfl rfl) ?_
                                                      refine jl_prop (fun h154 => ?_) (fun h154 => ?_)
                                                      · first
                                                        | (exfalso; omega)
                                                        | (
                                                          refine jl_y rfl (by decide) rfl (y_pick_true rfl rfl) ?_
                                                          refine jl_y rfl (by decide) rfl (y_move rfl) ?_
                                                          refine jl_y rfl (by decide) rfl (y_move rfl) ?_
                                                          refine jl_pcall rfl (by decide) rfl (goes_func rfl) (fun w1 hw1 => pcall hw1 (far_any _ _ w1 (by simp only [fits]; decide))) ?_
                                                          refine jl_y rfl (by decide) rfl (y_move rfl) ?_
                                                          refine jl_pcall rfl (by decide) rfl (goes_func rfl) (fun w1 hw1 => pcall hw1 (anchor_any _ sS 3 w1 (hcc.keep hw1))) ?_
                                                          refine jl_y rfl (by decide) rfl (y_seql rfl rfl) ?_
                                                          refine jl_as (u := .bool true) (congrArg (fun b => Value.bool b) (decide_eq_true ((farS_nat 3 (tokS_size _ _ _) (by decide)).trans (tok_far sS (by decide) (by decide))))) ?_
                                                          refine jl_y rfl (by decide) rfl (y_pick_true rfl rfl) ?_
                                                          refine jl_y rfl (by decide) rfl (y_move rfl) ?_
                                                          refine jl_pcall rfl (by decide) rfl (goes_func rfl) (fun w1 hw1 => pcall hw1 (far_any _ _ w1 (by simp only [fits]; decide))) ?_
                                                          refine jl_y rfl (by decide) rfl (y_seql rfl rfl) ?_
                                                          refine jl_as (u := .bool true) (congrArg (fun b => Value.bool b) (decide_eq_true (farS_neg (by decide)))) ?_
                                                          refine jl_y rfl (by decide) rfl (y_pick_true rfl rfl) ?_
                                                          refine jl_y rfl (by decide) rfl (y_assign rfl) ?_
                                                          refine jl_nil ?_
                                                          refine jq_then ?_
                                                          refine jc_ret ?_
                                                          refine jq_ret1 rfl rfl ?_
                                                          exact fun _ hw => ⟨rfl, (hbc.ch.then hw.ch)⟩
                                                          )
                                                      · first
                                                        | (exfalso; omega)
                                                        | (
                                                          refine jl_y rfl (by decide) rfl (y_pick_true rfl rfl) ?_
                                                          refine jl_y rfl (by decide) rfl (y_move rfl) ?_
                                                          refine jl_skip rfl (by decide) rfl ?_
                                                          refine jl_skip rfl (by decide) rfl ?_
                                                          refine jl_skip rfl (by decide) rfl ?_
                                                          refine jl_skip rfl (by decide) rfl ?_
                                                          refine jl_skip rfl (by decide) rfl ?_
                                                          refine jl_y rfl (by decide) rfl (y_pick_false rfl rfl) ?_
                                                          refine jl_y rfl (by decide) rfl (y_move rfl) ?_
                                                          refine jl_skip rfl (by decide) rfl ?_
                                                          refine jl_skip rfl (by decide) rfl ?_
                                                          refine jl_y rfl (by decide) rfl (y_pick_false rfl rfl) ?_
                                                          refine jl_y rfl (by decide) rfl (y_assign rfl) ?_
                                                          refine jl_nil ?_
                                                          refine jq_then ?_
                                                          refine jc_ret ?_
                                                          refine jq_ret1 rfl rfl ?_
                                                          exact fun _ hw => ⟨rfl, (hbc.ch.then hw.ch)⟩
                                                          )
                                                      )
                                                  · first
                                                    | (exfalso; omega)
                                                    | (
                                                      refine jl_y rfl (by decide) rfl (y_pick_true rfl rfl) ?_
                                                      refine jl_y rfl (by decide) rfl (y_move rfl) ?_
                                                      refine jl_skip rfl (by decide) rfl ?_
                                                      refine jl_skip rfl (by decide) rfl ?_
                                                      refine jl_skip rfl (by decide) rfl ?_
                                                      refine jl_skip rfl (by decide) rfl ?_
                                                      refine jl_y rfl (by decide) rfl (y_pick_false rfl rfl) ?_
                                                      refine jl_y rfl (by decide) rfl (y_move rfl) ?_
                                                      refine jl_skip rfl (by decide) rfl ?_
                                                      refine jl_skip rfl (by decide) rfl ?_
                                                      refine jl_skip rfl (by decide) rfl ?_
                                                      refine jl_skip rfl (by decide) rfl ?_
                                                      refine jl_y rfl (by decide) rfl (y_pick_false rfl rfl) ?_
                                                      refine jl_y rfl (by decide) rfl (y_move rfl) ?_
                                                      refine jl_skip rfl (by decide) rfl ?_
                                                      refine jl_skip rfl (by decide) rfl ?_
                                                      refine jl_skip rfl (by decide) rfl ?_
                                                      refine jl_skip rfl (by decide) rfl ?_
                                                      refine jl_y rfl (by decide) rfl (y_pick_false rfl rfl) ?_
                                                      refine jl_y rfl (by decide) rfl (y_move rfl) ?_
                                                      refine jl_skip rfl (by decide) rfl ?_
                                                      refine jl_skip rfl (by decide) rfl ?_
                                                      refine jl_skip rfl (by decide) rfl ?_
                                                      refine jl_y rfl (by decide) rfl (y_pick_false rfl rfl) ?_
                                                      refine jl_y rfl (by decide) rfl (y_move rfl) ?_
                                                      refine jl_skip rfl (by decide) rfl ?_
                                                      refine jl_skip rfl (by decide) rfl ?_
                                                      refine jl_skip rfl (by decide) rfl ?_
                                                      refine jl_skip rfl (by decide) rfl ?_
                                                      refine jl_skip rfl (by decide) rfl ?_
                                                      refine jl_y rfl (by decide) rfl (y_pick_false rfl rfl) ?_
                                                      refine jl_y rfl (by decide) rfl (y_move rfl) ?_
                                                      refine jl_skip rfl (by decide) rfl ?_
                                                      refine jl_skip rfl (by decide) rfl ?_
                                                      refine jl_y rfl (by decide) rfl (y_pick_false rfl rfl) ?_
                                                      refine jl_y rfl (by decide) rfl (y_assign rfl) ?_
                                                      refine jl_nil ?_
                                                      refine jq_then ?_
                                                      refine jc_ret ?_
                                                      refine jq_ret1 rfl rfl ?_
                                                      exact fun _ hw => ⟨rfl, (hbc.ch.then hw.ch)⟩
                                                      )
                                                  )
                                              · first
                                                | (exfalso; omega)
                                                | (
                                                  refine jl_y rfl (by decide) rfl (y_pick_true rfl rfl) ?_
                                                  refine jl_y rfl (by decide) rfl (y_move rfl) ?_
                                                  refine jl_skip rfl (by decide) rfl ?_
                                                  refine jl_skip rfl (by decide) rfl ?_
                                                  refine jl_y rfl (by decide) rfl (y_pick_false rfl rfl) ?_
                                                  refine jl_y rfl (by decide) rfl (y_move rfl) ?_
                                                  refine jl_skip rfl (by decide) rfl ?_
                                                  refine jl_skip rfl (by decide) rfl ?_
                                                  refine jl_skip rfl (by decide) rfl ?_
                                                  refine jl_skip rfl (by decide) rfl ?_
                                                  refine jl_y rfl (by decide) rfl (y_pick_false rfl rfl) ?_
                                                  refine jl_y rfl (by decide) rfl (y_move rfl) ?_
                                                  refine jl_skip rfl (by decide) rfl ?_
                                                  refine jl_skip rfl (by decide) rfl ?_
                                                  refine jl_skip rfl (by decide) rfl ?_
                                                  refine jl_skip rfl (by decide) rfl ?_
                                                  refine jl_y rfl (by decide) rfl (y_pick_false rfl rfl) ?_
                                                  refine jl_y rfl (by decide) rfl (y_move rfl) ?_
                                                  refine jl_skip rfl (by decide) rfl ?_
                                                  refine jl_skip rfl (by decide) rfl ?_
                                                  refine jl_skip rfl (by decide) rfl ?_
                                                  refine jl_skip rfl (by decide) rfl ?_
                                                  refine jl_y rfl (by decide) rfl (y_pick_false rfl rfl) ?_
                                                  refine jl_y rfl (by decide) rfl (y_move rfl) ?_
                                                  refine jl_skip rfl (by decide) rfl ?_
                                                  refine jl_skip rfl (by decide) rfl ?_
                                                  refine jl_skip rfl (by decide) rfl ?_
                                                  refine jl_y rfl (by decide) rfl (y_pick_false rfl rfl) ?_
                                                  refine jl_y rfl (by decide) rfl (y_move rfl) ?_
                                                  refine jl_skip rfl (by decide) rfl ?_
                                                  refine jl_skip rfl (by decide) rfl ?_
                                                  refine jl_skip rfl (by decide) rfl ?_
                                                  refine jl_skip rfl (by decide) rfl ?_
                                                  refine jl_skip rfl (by decide) rfl ?_
                                                  refine jl_y rfl (by decide) rfl (y_pick_false rfl rfl) ?_
                                                  refine jl_y rfl (by decide) rfl (y_move rfl) ?_
                                                  refine jl_skip rfl (by decide) rfl ?_
                                                  refine jl_skip rfl (by decide) rfl ?_
                                                  refine jl_y rfl (by decide) rfl (y_pick_false rfl rfl) ?_
                                                  refine jl_y rfl (by decide) rfl (y_assign rfl) ?_
                                                  refine jl_nil ?_
                                                  refine jq_then ?_
                                                  refine jc_ret ?_
                                                  refine jq_ret1 rfl rfl ?_
                                                  exact fun _ hw => ⟨rfl, (hbc.ch.then hw.ch)⟩
                                                  )
                                              )
                                          · first
                                            | (exfalso; omega)
                                            | (
                                              refine jl_y rfl (by decide) rfl (y_pick_true rfl rfl) ?_
                                              refine jl_y rfl (by decide) rfl (y_move rfl) ?_
                                              refine jl_skip rfl (by decide) rfl ?_
                                              refine jl_skip rfl (by decide) rfl ?_
                                              refine jl_y rfl (by decide) rfl (y_pick_false rfl rfl) ?_
                                              refine jl_y rfl (by decide) rfl (y_move rfl) ?_
                                              refine jl_skip rfl (by decide) rfl ?_
                                              refine jl_skip rfl (by decide) rfl ?_
                                              refine jl_y rfl (by decide) rfl (y_pick_false rfl rfl) ?_
                                              refine jl_y rfl (by decide) rfl (y_move rfl) ?_
                                              refine jl_skip rfl (by decide) rfl ?_
                                              refine jl_skip rfl (by decide) rfl ?_
                                              refine jl_skip rfl (by decide) rfl ?_
                                              refine jl_skip rfl (by decide) rfl ?_
                                              refine jl_y rfl (by decide) rfl (y_pick_false rfl rfl) ?_
                                              refine jl_y rfl (by decide) rfl (y_move rfl) ?_
                                              refine jl_skip rfl (by decide) rfl ?_
                                              refine jl_skip rfl (by decide) rfl ?_
                                              refine jl_skip rfl (by decide) rfl ?_
                                              refine jl_skip rfl (by decide) rfl ?_
                                              refine jl_y rfl (by decide) rfl (y_pick_false rfl rfl) ?_
                                              refine jl_y rfl (by decide) rfl (y_move rfl) ?_
                                              refine jl_skip rfl (by decide) rfl ?_
                                              refine jl_skip rfl (by decide) rfl ?_
                                              refine jl_skip rfl (by decide) rfl ?_
                                              refine jl_skip rfl (by decide) rfl ?_
                                              refine jl_y rfl (by decide) rfl (y_pick_false rfl rfl) ?_
                                              refine jl_y rfl (by decide) rfl (y_move rfl) ?_
                                              refine jl_skip rfl (by decide) rfl ?_
                                              refine jl_skip rfl (by decide) rfl ?_
                                              refine jl_skip rfl (by decide) rfl ?_
                                              refine jl_y rfl (by decide) rfl (y_pick_false rfl rfl) ?_
                                              refine jl_y rfl (by decide) rfl (y_move rfl) ?_
                                              refine jl_skip rfl (by decide) rfl ?_
                                              refine jl_skip rfl (by decide) rfl ?_
                                              refine jl_skip rfl (by decide) rfl ?_
                                              refine jl_skip rfl (by decide) rfl ?_
                                              refine jl_skip rfl (by decide) rfl ?_
                                              refine jl_y rfl (by decide) rfl (y_pick_false rfl rfl) ?_
                                              refine jl_y rfl (by decide) rfl (y_move rfl) ?_
                                              refine jl_skip rfl (by decide) rfl ?_
                                              refine jl_skip rfl (by decide) rfl ?_
                                              refine jl_y rfl (by decide) rfl (y_pick_false rfl rfl) ?_
                                              refine jl_y rfl (by decide) rfl (y_assign rfl) ?_
                                              refine jl_nil ?_
                                              refine jq_then ?_
                                              refine jc_ret ?_
                                              refine jq_ret1 rfl rfl ?_
                                              exact fun _ hw => ⟨rfl, (hbc.ch.then hw.ch)⟩
                                              )
                                          )
                                      · first
                                        | (exfalso; omega)
                                        | (
                                          refine jl_y rfl (by decide) rfl (y_pick_true rfl rfl) ?_
                                          refine jl_y rfl (by decide) rfl (y_move rfl) ?_
                                          refine jl_skip rfl (by decide) rfl ?_
                                          refine jl_skip rfl (by decide) rfl ?_
                                          refine jl_y rfl (by decide) rfl (y_pick_false rfl rfl) ?_
                                          refine jl_y rfl (by decide) rfl (y_move rfl) ?_
                                          refine jl_skip rfl (by decide) rfl ?_
                                          refine jl_skip rfl (by decide) rfl ?_
                                          refine jl_y rfl (by decide) rfl (y_pick_false rfl rfl) ?_
                                          refine jl_y rfl (by decide) rfl (y_move rfl) ?_
                                          refine jl_skip rfl (by decide) rfl ?_
                                          refine jl_skip rfl (by decide) rfl ?_
                                          refine jl_y rfl (by decide) rfl (y_pick_false rfl rfl) ?_
                                          refine jl_y rfl (by decide) rfl (y_move rfl) ?_
                                          refine jl_skip rfl (by decide) rfl ?_
                                          refine jl_skip rfl (by decide) rfl ?_
                                          refine jl_skip rfl (by decide) rfl ?_
                                          refine jl_skip rfl (by decide) rfl ?_
                                          refine jl_y rfl (by decide) rfl (y_pick_false rfl rfl) ?_
                                          refine jl_y rfl (by decide) rfl (y_move rfl) ?_
                                          refine jl_skip rfl (by decide) rfl ?_
                                          refine jl_skip rfl (by decide) rfl ?_
                                          refine jl_skip rfl (by decide) rfl ?_
                                          refine jl_skip rfl (by decide) rfl ?_
                                          refine jl_y rfl (by decide) rfl (y_pick_false rfl rfl) ?_
                                          refine jl_y rfl (by decide) rfl (y_move rfl) ?_
                                          refine jl_skip rfl (by decide) rfl ?_
                                          refine jl_skip rfl (by decide) rfl ?_
                                          refine jl_skip rfl (by decide) rfl ?_
                                          refine jl_skip rfl (by decide) rfl ?_
                                          refine jl_y rfl (by decide) rfl (y_pick_false rfl rfl) ?_
                                          refine jl_y rfl (by decide) rfl (y_move rfl) ?_
                                          refine jl_skip rfl (by decide) rfl ?_
                                          refine jl_skip rfl (by decide) rfl ?_
                                          refine jl_skip rfl (by decide) rfl ?_
                                          refine jl_y rfl (by decide) rfl (y_pick_false rfl rfl) ?_
                                          refine jl_y rfl (by decide) rfl (y_move rfl) ?_
                                          refine jl_skip rfl (by decide) rfl ?_
                                          refine jl_skip rfl (by decide) rfl ?_
                                          refine jl_skip rfl (by decide) rfl ?_
                                          refine jl_skip rfl (by decide) rfl ?_
                                          refine jl_skip rfl (by decide) rfl ?_
                                          refine jl_y rfl (by decide) rfl (y_pick_false rfl rfl) ?_
                                          refine jl_y rfl (by decide) rfl (y_move rfl) ?_
                                          refine jl_skip rfl (by decide) rfl ?_
                                          refine jl_skip rfl (by decide) rfl ?_
                                          refine jl_y rfl (by decide) rfl (y_pick_false rfl rfl) ?_
                                          refine jl_y rfl (by decide) rfl (y_assign rfl) ?_
                                          refine jl_nil ?_
                                          refine jq_then ?_
                                          refine jc_ret ?_
                                          refine jq_ret1 rfl rfl ?_
                                          exact fun _ hw => ⟨rfl, (hbc.ch.then hw.ch)⟩
                                          )
                                      )
                                  · first
                                    | (exfalso; omega)
                                    | (
                                      refine jl_y rfl (by decide) rfl (y_pick_true rfl rfl) ?_
                                      refine jl_y rfl (by decide) rfl (y_move rfl) ?_
                                      refine jl_skip rfl (by decide) rfl ?_
                                      refine jl_skip rfl (by decide) rfl ?_
                                      refine jl_y rfl (by decide) rfl (y_pick_false rfl rfl) ?_
                                      refine jl_y rfl (by decide) rfl (y_move rfl) ?_
                                      refine jl_skip rfl (by decide) rfl ?_
                                      refine jl_skip rfl (by decide) rfl ?_
                                      refine jl_y rfl (by decide) rfl (y_pick_false rfl rfl) ?_
                                      refine jl_y rfl (by decide) rfl (y_move rfl) ?_
                                      refine jl_skip rfl (by decide) rfl ?_
                                      refine jl_skip rfl (by decide) rfl ?_
                                      refine jl_y rfl (by decide) rfl (y_pick_false rfl rfl) ?_
                                      refine jl_y rfl (by decide) rfl (y_move rfl) ?_
                                      refine jl_skip rfl (by decide) rfl ?_
                                      refine jl_skip rfl (by decide) rfl ?_
                                      refine jl_y rfl (by decide) rfl (y_pick_false rfl rfl) ?_
                                      refine jl_y rfl (by decide) rfl (y_move rfl) ?_
                                      refine jl_skip rfl (by decide) rfl ?_
                                      refine jl_skip rfl (by decide) rfl ?_
                                      refine jl_skip rfl (by decide) rfl ?_
                                      refine jl_skip rfl (by decide) rfl ?_
                                      refine jl_y rfl (by decide) rfl (y_pick_false rfl rfl) ?_
                                      refine jl_y rfl (by decide) rfl (y_move rfl) ?_
                                      refine jl_skip rfl (by decide) rfl ?_
                                      refine jl_skip rfl (by decide) rfl ?_
                                      refine jl_skip rfl (by decide) rfl ?_
                                      refine jl_skip rfl (by decide) rfl ?_
                                      refine jl_y rfl (by decide) rfl (y_pick_false rfl rfl) ?_
                                      refine jl_y rfl (by decide) rfl (y_move rfl) ?_
                                      refine jl_skip rfl (by decide) rfl ?_
                                      refine jl_skip rfl (by decide) rfl ?_
                                      refine jl_skip rfl (by decide) rfl ?_
                                      refine jl_skip rfl (by decide) rfl ?_
                                      refine jl_y rfl (by decide) rfl (y_pick_false rfl rfl) ?_
                                      refine jl_y rfl (by decide) rfl (y_move rfl) ?_
                                      refine jl_skip rfl (by decide) rfl ?_
                                      refine jl_skip rfl (by decide) rfl ?_
                                      refine jl_skip rfl (by decide) rfl ?_
                                      refine jl_y rfl (by decide) rfl (y_pick_false rfl rfl) ?_
                                      refine jl_y rfl (by decide) rfl (y_move rfl) ?_
                                      refine jl_skip rfl (by decide) rfl ?_
                                      refine jl_skip rfl (by decide) rfl ?_
                                      refine jl_skip rfl (by decide) rfl ?_
                                      refine jl_skip rfl (by decide) rfl ?_
                                      refine jl_skip rfl (by decide) rfl ?_
                                      refine jl_y rfl (by decide) rfl (y_pick_false rfl rfl) ?_
                                      refine jl_y rfl (by decide) rfl (y_move rfl) ?_
                                      refine jl_skip rfl (by decide) rfl ?_
                                      refine jl_skip rfl (by decide) rfl ?_
                                      refine jl_y rfl (by decide) rfl (y_pick_false rfl rfl) ?_
                                      refine jl_y rfl (by decide) rfl (y_assign rfl) ?_
                                      refine jl_nil ?_
                                      refine jq_then ?_
                                      refine jc_ret ?_
                                      refine jq_ret1 rfl rfl ?_
                                      exact fun _ hw => ⟨rfl, (hbc.ch.then hw.ch)⟩
                                      )
                                  )
                              · first
                                | (exfalso; omega)
                                | (
                                  refine jl_y rfl (by decide) rfl (y_move rfl) ?_
                                  refine jl_y rfl (by decide) rfl (y_move rfl) ?_
                                  refine jl_y rfl (by decide) rfl (y_lss rfl rfl) ?_
                                  refine jl_prop (fun h110 => ?_) (fun h110 => ?_)
                                  · first
                                    | (exfalso; omega)
                                    | (
                                      refine jl_y rfl (by decide) rfl (y_pick_false rfl rfl) ?_
                                      refine jl_y rfl (by decide) rfl (y_pick_true rfl rfl) ?_
                                      refine jl_y rfl (by decide) rfl (y_move rfl) ?_
                                      refine jl_y rfl (by decide) rfl (y_move rfl) ?_
                                      refine jl_y rfl (by decide) rfl (y_eql rfl rfl) ?_
                                      refine jl_prop (fun h115 => ?_) (fun h115 => ?_)
                                      · first
                                        | (exfalso; omega)
                                        | (
                                          refine jl_y rfl (by decide) rfl (y_pick_true rfl rfl) ?_
                                          refine jl_y rfl (by decide) rfl (y_move rfl) ?_
                                          refine jl_y rfl (by decide) rfl (y_move rfl) ?_
                                          refine jl_y rfl (by decide) rfl (y_eql rfl rfl) ?_
                                          refine jl_prop (fun h119 => ?_) (fun h119 => ?_)
                                          · first
                                            | (exfalso; omega)
                                            | (
                                              refine jl_y rfl (by decide) rfl (y_pick_true rfl rfl) ?_
                                              refine jl_y rfl (by decide) rfl (y_move rfl) ?_
                                              refine jl_y rfl (by decide) rfl (y_move rfl) ?_
                                              refine jl_y rfl (by decide) rfl (y_eql rfl rfl) ?_
                                              refine jl_prop (fun h123 => ?_) (fun h123 => ?_)
                                              · first
                                                | (exfalso; omega)
                                                | (
                                                  refine jl_y rfl (by decide) rfl (y_pick_true rfl rfl) ?_
                                                  refine jl_y rfl (by decide) rfl (y_move rfl) ?_
                                                  refine jl_y rfl (by decide) rfl (y_move rfl) ?_
                                                  refine jl_y rfl (by decide) rfl (y_eql rfl rfl) ?_
                                                  refine jl_prop (fun h127 => ?_) (fun h127 => ?_)
                                                  · first
                                                    | (exfalso; omega)
                                                    | (
                                                      refine jl_y rfl (by decide) rfl (y_pick_true rfl rfl) ?_
                                                      refine jl_y rfl (by decide) rfl (y_move rfl) ?_
                                                      refine jl_y rfl (by decide) rfl (y_move rfl) ?_
                                                      refine jl_y rfl (by decide) rfl (y_eql rfl rfl) ?_
                                                      refine jl_prop (fun h131 => ?_) (fun h131 => ?_)
                                                      · first
                                                        | (exfalso; omega)
                                                        | (
                                                          refine jl_y rfl (by decide) rfl (y_pick_true rfl rfl) ?_
                                                          refine jl_y rfl (by decide) rfl (y_move rfl) ?_
                                                          refine jl_y rfl (by decide) rfl (y_move rfl) ?_
                                                          refine jl_m rfl (by decide) rfl (m_buildSlice (by decide) (Built.cell rfl rfl rfl (by repeat constructor) Built.nil)) (fun b135 => ?_)
                                                          refine jl_pcall rfl (by decide) rfl (goes_func rfl) (fun w1 hw1 => pcall hw1 (tag_any strSeeded (some ⟨b135, 0, none⟩) 1 [sS] w1 (by decide) (by simp) (all1 (by decide)) (Strs.of_row (hw1.get mem0)))) ?_
                                                          refine jl_y rfl (by decide) rfl (y_seql rfl rfl) ?_
                                                          refine jl_as (u := .bool true) (congrArg (fun b => Value.bool b) (decide_eq_true (tok_last sS 3))) ?_
                                                          refine jl_y rfl (by decide) rfl (y_pick_true rfl rfl) ?_
                                                          refine jl_y rfl (by decide) rfl (y_move rfl) ?_
                                                          refine jl_y rfl (by decide) rfl (y_move rfl) ?_
                                                          refine jl_pcall rfl (by decide) rfl (goes_func rfl) (fun w1 hw1 => pcall hw1 (next_any _ w1 (by first | omega | decide | (rw [farN_size (by omega)]; decide) | (rw [tokS_size]; decide) | (rw [tagS_size]; decide)))) ?_
                                                          refine jl_y rfl (by decide) rfl (y_move rfl) ?_
                                                          refine jl_y rfl (by decide) rfl (y_seql rfl rfl) ?_
                                                          refine jl_as (u := .bool true) (congrArg (fun b => Value.bool b) (decide_eq_true (@tok_next sS 3 2 (by decide)))) ?_
                                                          refine jl_y rfl (by decide) rfl (y_pick_true rfl rfl) ?_
                                                          refine jl_y rfl (by decide) rfl (y_move rfl) ?_
                                                          refine jl_pcall rfl (by decide) rfl (goes_func rfl) (fun w1 hw1 => pcall hw1 (next_any _ w1 (by first | omega | decide | (rw [farN_size (by omega)]; decide) | (rw [tokS_size]; decide) | (rw [tagS_size]; decide)))) ?_
                                                          refine jl_m rfl (by decide) rfl (m_buildSlice (by decide) (Built.cell rfl rfl rfl (by repeat constructor) Built.nil)) (fun b147 => ?_)
                                                          refine jl_pcall rfl (by decide) rfl (goes_func rfl) (fun w1 hw1 => pcall hw1 (tag_any strPayword (some ⟨b147, 0, none⟩) 1 [sT] w1 (by decide) (by simp) (all1 (by decide)) (Strs.of_row (hw1.get mem0)))) ?_
                                                          refine jl_y rfl (by decide) rfl (y_seql rfl rfl) ?_
                                                          refine jl_as (u := .bool true) (congrArg (fun b => Value.bool b) (decide_eq_true (rfl))) ?_
                                                          refine jl_y rfl (by decide) rfl (y_pick_true rfl rfl) ?_
                                                          refine jl_y rfl (by decide) rfl (y_move rfl) ?_
                                                          refine jl_y rfl (by decide) rfl (y_move rfl) ?_
                                                          refine jl_pcall rfl (by decide) rfl (goes_func rfl) (fun w1 hw1 => pcall hw1 (len_any _ sS 3 w1 (hcc.keep hw1) (by decide))) ?_
                                                          refine jl_y rfl (by decide) rfl (y_eql rfl rfl) ?_
                                                          refine jl_prop (fun h154 => ?_) (fun h154 => ?_)
                                                          · first
                                                            | (exfalso; omega)
                                                            | (
                                                              refine jl_y rfl (by decide) rfl (y_pick_true rfl rfl) ?_
                                                              refine jl_y rfl (by decide) rfl (y_move rfl) ?_
                                                              refine jl_y rfl (by decide) rfl (y_move rfl) ?_
                                                              refine jl_pcall rfl (by decide) rfl (goes_func rfl) (fun w1 hw1 => pcall hw1 (far_any _ _ w1 (by simp only [fits]; decide))) ?_
                                                              refine jl_y rfl (by decide) rfl (y_move rfl) ?_
                                                              refine jl_pcall rfl (by decide) rfl (goes_func rfl) (fun w1 hw1 => pcall hw1 (anchor_any _ sS 3 w1 (hcc.keep hw1))) ?_
                                                              refine jl_y rfl (by decide) rfl (y_seql rfl rfl) ?_
                                                              refine jl_as (u := .bool true) (congrArg (fun b => Value.bool b) (decide_eq_true ((farS_nat 3 (tokS_size _ _ _) (by decide)).trans (tok_far sS (by decide) (by decide))))) ?_
                                                              refine jl_y rfl (by decide) rfl (y_pick_true rfl rfl) ?_
                                                              refine jl_y rfl (by decide) rfl (y_move rfl) ?_
                                                              refine jl_pcall rfl (by decide) rfl (goes_func rfl) (fun w1 hw1 => pcall hw1 (far_any _ _ w1 (by simp only [fits]; decide))) ?_
                                                              refine jl_y rfl (by decide) rfl (y_seql rfl rfl) ?_
                                                              refine jl_as (u := .bool true) (congrArg (fun b => Value.bool b) (decide_eq_true (farS_neg (by decide)))) ?_
                                                              refine jl_y rfl (by decide) rfl (y_pick_true rfl rfl) ?_
                                                              refine jl_y rfl (by decide) rfl (y_assign rfl) ?_
                                                              refine jl_nil ?_
                                                              refine jq_then ?_
                                                              refine jc_ret ?_
                                                              refine jq_ret1 rfl rfl ?_
                                                              exact fun _ hw => ⟨rfl, (hbc.ch.then hw.ch)⟩
                                                              )
                                                          · first
                                                            | (exfalso; omega)
                                                            | (
                                                              refine jl_y rfl (by decide) rfl (y_pick_true rfl rfl) ?_
                                                              refine jl_y rfl (by decide) rfl (y_move rfl) ?_
                                                              refine jl_skip rfl (by decide) rfl ?_
                                                              refine jl_skip rfl (by decide) rfl ?_
                                                              refine jl_skip rfl (by decide) rfl ?_
                                                              refine jl_skip rfl (by decide) rfl ?_
                                                              refine jl_skip rfl (by decide) rfl ?_
                                                              refine jl_y rfl (by decide) rfl (y_pick_false rfl rfl) ?_
                                                              refine jl_y rfl (by decide) rfl (y_move rfl) ?_
                                                              refine jl_skip rfl (by decide) rfl ?_
                                                              refine jl_skip rfl (by decide) rfl ?_
                                                              refine jl_y rfl (by decide) rfl (y_pick_false rfl rfl) ?_
                                                              refine jl_y rfl (by decide) rfl (y_assign rfl) ?_
                                                              refine jl_nil ?_
                                                              refine jq_then ?_
                                                              refine jc_ret ?_
                                                              refine jq_ret1 rfl rfl ?_
                                                              exact fun _ hw => ⟨rfl, (hbc.ch.then hw.ch)⟩
                                                              )
                                                          )
                                                      · first
                                                        | (exfalso; omega)
                                                        | (
                                                          refine jl_y rfl (by decide) rfl (y_pick_true rfl rfl) ?_
                                                          refine jl_y rfl (by decide) rfl (y_move rfl) ?_
                                                          refine jl_skip rfl (by decide) rfl ?_
                                                          refine jl_skip rfl (by decide) rfl ?_
                                                          refine jl_skip rfl (by decide) rfl ?_
                                                          refine jl_skip rfl (by decide) rfl ?_
                                                          refine jl_y rfl (by decide) rfl (y_pick_false rfl rfl) ?_
                                                          refine jl_y rfl (by decide) rfl (y_move rfl) ?_
                                                          refine jl_skip rfl (by decide) rfl ?_
                                                          refine jl_skip rfl (by decide) rfl ?_
                                                          refine jl_skip rfl (by decide) rfl ?_
                                                          refine jl_skip rfl (by decide) rfl ?_
                                                          refine jl_y rfl (by decide) rfl (y_pick_false rfl rfl) ?_
                                                          refine jl_y rfl (by decide) rfl (y_move rfl) ?_
                                                          refine jl_skip rfl (by decide) rfl ?_
                                                          refine jl_skip rfl (by decide) rfl ?_
                                                          refine jl_skip rfl (by decide) rfl ?_
                                                          refine jl_skip rfl (by decide) rfl ?_
                                                          refine jl_y rfl (by decide) rfl (y_pick_false rfl rfl) ?_
                                                          refine jl_y rfl (by decide) rfl (y_move rfl) ?_
                                                          refine jl_skip rfl (by decide) rfl ?_
                                                          refine jl_skip rfl (by decide) rfl ?_
                                                          refine jl_skip rfl (by decide) rfl ?_
                                                          refine jl_y rfl (by decide) rfl (y_pick_false rfl rfl) ?_
                                                          refine jl_y rfl (by decide) rfl (y_move rfl) ?_
                                                          refine jl_skip rfl (by decide) rfl ?_
                                                          refine jl_skip rfl (by decide) rfl ?_
                                                          refine jl_skip rfl (by decide) rfl ?_
                                                          refine jl_skip rfl (by decide) rfl ?_
                                                          refine jl_skip rfl (by decide) rfl ?_
                                                          refine jl_y rfl (by decide) rfl (y_pick_false rfl rfl) ?_
                                                          refine jl_y rfl (by decide) rfl (y_move rfl) ?_
                                                          refine jl_skip rfl (by decide) rfl ?_
                                                          refine jl_skip rfl (by decide) rfl ?_
                                                          refine jl_y rfl (by decide) rfl (y_pick_false rfl rfl) ?_
                                                          refine jl_y rfl (by decide) rfl (y_assign rfl) ?_
                                                          refine jl_nil ?_
                                                          refine jq_then ?_
                                                          refine jc_ret ?_
                                                          refine jq_ret1 rfl rfl ?_
                                                          exact fun _ hw => ⟨rfl, (hbc.ch.then hw.ch)⟩
                                                          )
                                                      )
                                                  · first
                                                    | (exfalso; omega)
                                                    | (
                                                      refine jl_y rfl (by decide) rfl (y_pick_true rfl rfl) ?_
                                                      refine jl_y rfl (by decide) rfl (y_move rfl) ?_
                                                      refine jl_skip rfl (by decide) rfl ?_
                                                      refine jl_skip rfl (by decide) rfl ?_
                                                      refine jl_y rfl (by decide) rfl (y_pick_false rfl rfl) ?_
                                                      refine jl_y rfl (by decide) rfl (y_move rfl) ?_
                                                      refine jl_skip rfl (by decide) rfl ?_
                                                      refine jl_skip rfl (by decide) rfl ?_
                                                      refine jl_skip rfl (by decide) rfl ?_
                                                      refine jl_skip rfl (by decide) rfl ?_
                                                      refine jl_y rfl (by decide) rfl (y_pick_false rfl rfl) ?_
                                                      refine jl_y rfl (by decide) rfl (y_move rfl) ?_
                                                      refine jl_skip rfl (by decide) rfl ?_
                                                      refine jl_skip rfl (by decide) rfl ?_
                                                      refine jl_skip rfl (by decide) rfl ?_
                                                      refine jl_skip rfl (by decide) rfl ?_
                                                      refine jl_y rfl (by decide) rfl (y_pick_false rfl rfl) ?_
                                                      refine jl_y rfl (by decide) rfl (y_move rfl) ?_
                                                      refine jl_skip rfl (by decide) rfl ?_
                                                      refine jl_skip rfl (by decide) rfl ?_
                                                      refine jl_skip rfl (by decide) rfl ?_
                                                      refine jl_skip rfl (by decide) rfl ?_
                                                      refine jl_y rfl (by decide) rfl (y_pick_false rfl rfl) ?_
                                                      refine jl_y rfl (by decide) rfl (y_move rfl) ?_
                                                      refine jl_skip rfl (by decide) rfl ?_
                                                      refine jl_skip rfl (by decide) rfl ?_
                                                      refine jl_skip rfl (by decide) rfl ?_
                                                      refine jl_y rfl (by decide) rfl (y_pick_false rfl rfl) ?_
                                                      refine jl_y rfl (by decide) rfl (y_move rfl) ?_
                                                      refine jl_skip rfl (by decide) rfl ?_
                                                      refine jl_skip rfl (by decide) rfl ?_
                                                      refine jl_skip rfl (by decide) rfl ?_
                                                      refine jl_skip rfl (by decide) rfl ?_
                                                      refine jl_skip rfl (by decide) rfl ?_
                                                      refine jl_y rfl (by decide) rfl (y_pick_false rfl rfl) ?_
                                                      refine jl_y rfl (by decide) rfl (y_move rfl) ?_
                                                      refine jl_skip rfl (by decide) rfl ?_
                                                      refine jl_skip rfl (by decide) rfl ?_
                                                      refine jl_y rfl (by decide) rfl (y_pick_false rfl rfl) ?_
                                                      refine jl_y rfl (by decide) rfl (y_assign rfl) ?_
                                                      refine jl_nil ?_
                                                      refine jq_then ?_
                                                      refine jc_ret ?_
                                                      refine jq_ret1 rfl rfl ?_
                                                      exact fun _ hw => ⟨rfl, (hbc.ch.then hw.ch)⟩
                                                      )
                                                  )
                                              · first
                                                | (exfalso; omega)
                                                | (
                                                  refine jl_y rfl (by decide) rfl (y_pick_true rfl rfl) ?_
                                                  refine jl_y rfl (by decide) rfl (y_move rfl) ?_
                                                  refine jl_skip rfl (by decide) rfl ?_
                                                  refine jl_skip rfl (by decide) rfl ?_
                                                  refine jl_y rfl (by decide) rfl (y_pick_false rfl rfl) ?_
                                                  refine jl_y rfl (by decide) rfl (y_move rfl) ?_
                                                  refine jl_skip rfl (by decide) rfl ?_
                                                  refine jl_skip rfl (by decide) rfl ?_
                                                  refine jl_y rfl (by decide) rfl (y_pick_false rfl rfl) ?_
                                                  refine jl_y rfl (by decide) rfl (y_move rfl) ?_
                                                  refine jl_skip rfl (by decide) rfl ?_
                                                  refine jl_skip rfl (by decide) rfl ?_
                                                  refine jl_skip rfl (by decide) rfl ?_
                                                  refine jl_skip rfl (by decide) rfl ?_
                                                  refine jl_y rfl (by decide) rfl (y_pick_false rfl rfl) ?_
                                                  refine jl_y rfl (by decide) rfl (y_move rfl) ?_
                                                  refine jl_skip rfl (by decide) rfl ?_
                                                  refine jl_skip rfl (by decide) rfl ?_
                                                  refine jl_skip rfl (by decide) rfl ?_
                                                  refine jl_skip rfl (by decide) rfl ?_
                                                  refine jl_y rfl (by decide) rfl (y_pick_false rfl rfl) ?_
                                                  refine jl_y rfl (by decide) rfl (y_move rfl) ?_
                                                  refine jl_skip rfl (by decide) rfl ?_
                                                  refine jl_skip rfl (by decide) rfl ?_
                                                  refine jl_skip rfl (by decide) rfl ?_
                                                  refine jl_skip rfl (by decide) rfl ?_
                                                  refine jl_y rfl (by decide) rfl (y_pick_false rfl rfl) ?_
                                                  refine jl_y rfl (by decide) rfl (y_move rfl) ?_
                                                  refine jl_skip rfl (by decide) rfl ?_
                                                  refine jl_skip rfl (by decide) rfl ?_
                                                  refine jl_skip rfl (by decide) rfl ?_
                                                  refine jl_y rfl (by decide) rfl (y_pick_false rfl rfl) ?_
                                                  refine jl_y rfl (by decide) rfl (y_move rfl) ?_
                                                  refine jl_skip rfl (by decide) rfl ?_
                                                  refine jl_skip rfl (by decide) rfl ?_
                                                  refine jl_skip rfl (by decide) rfl ?_
                                                  refine jl_skip rfl (by decide) rfl ?_
                                                  refine jl_skip rfl (by decide) rfl ?_
                                                  refine jl_y rfl (by decide) rfl (y_pick_false rfl rfl) ?_
                                                  refine jl_y rfl (by decide) rfl (y_move rfl) ?_
                                                  refine jl_skip rfl (by decide) rfl ?_
                                                  refine jl_skip rfl (by decide) rfl ?_
                                                  refine jl_y rfl (by decide) rfl (y_pick_false rfl rfl) ?_
                                                  refine jl_y rfl (by decide) rfl (y_assign rfl) ?_
                                                  refine jl_nil ?_
                                                  refine jq_then ?_
                                                  refine jc_ret ?_
                                                  refine jq_ret1 rfl rfl ?_
                                                  exact fun _ hw => ⟨rfl, (hbc.ch.then hw.ch)⟩
                                                  )
                                              )
                                          · first
                                            | (exfalso; omega)
                                            | (
                                              refine jl_y rfl (by decide) rfl (y_pick_true rfl rfl) ?_
                                              refine jl_y rfl (by decide) rfl (y_move rfl) ?_
                                              refine jl_skip rfl (by decide) rfl ?_
                                              refine jl_skip rfl (by decide) rfl ?_
                                              refine jl_y rfl (by decide) rfl (y_pick_false rfl rfl) ?_
                                              refine jl_y rfl (by decide) rfl (y_move rfl) ?_
                                              refine jl_skip rfl (by decide) rfl ?_
                                              refine jl_skip rfl (by decide) rfl ?_
                                              refine jl_y rfl (by decide) rfl (y_pick_false rfl rfl) ?_
                                              refine jl_y rfl (by decide) rfl (y_move rfl) ?_
                                              refine jl_skip rfl (by decide) rfl ?_
                                              refine jl_skip rfl (by decide) rfl ?_
                                              refine jl_y rfl (by decide) rfl (y_pick_false rfl rfl) ?_
                                              refine jl_y rfl (by decide) rfl (y_move rfl) ?_
                                              refine jl_skip rfl (by decide) rfl ?_
                                              refine jl_skip rfl (by decide) rfl ?_
                                              refine jl_skip rfl (by decide) rfl ?_
                                              refine jl_skip rfl (by decide) rfl ?_
                                              refine jl_y rfl (by decide) rfl (y_pick_false rfl rfl) ?_
                                              refine jl_y rfl (by decide) rfl (y_move rfl) ?_
                                              refine jl_skip rfl (by decide) rfl ?_
                                              refine jl_skip rfl (by decide) rfl ?_
                                              refine jl_skip rfl (by decide) rfl ?_
                                              refine jl_skip rfl (by decide) rfl ?_
                                              refine jl_y rfl (by decide) rfl (y_pick_false rfl rfl) ?_
                                              refine jl_y rfl (by decide) rfl (y_move rfl) ?_
                                              refine jl_skip rfl (by decide) rfl ?_
                                              refine jl_skip rfl (by decide) rfl ?_
                                              refine jl_skip rfl (by decide) rfl ?_
                                              refine jl_skip rfl (by decide) rfl ?_
                                              refine jl_y rfl (by decide) rfl (y_pick_false rfl rfl) ?_
                                              refine jl_y rfl (by decide) rfl (y_move rfl) ?_
                                              refine jl_skip rfl (by decide) rfl ?_
                                              refine jl_skip rfl (by decide) rfl ?_
                                              refine jl_skip rfl (by decide) rfl ?_
                                              refine jl_y rfl (by decide) rfl (y_pick_false rfl rfl) ?_
                                              refine jl_y rfl (by decide) rfl (y_move rfl) ?_
                                              refine jl_skip rfl (by decide) rfl ?_
                                              refine jl_skip rfl (by decide) rfl ?_
                                              refine jl_skip rfl (by decide) rfl ?_
                                              refine jl_skip rfl (by decide) rfl ?_
                                              refine jl_skip rfl (by decide) rfl ?_
                                              refine jl_y rfl (by decide) rfl (y_pick_false rfl rfl) ?_
                                              refine jl_y rfl (by decide) rfl (y_move rfl) ?_
                                              refine jl_skip rfl (by decide) rfl ?_
                                              refine jl_skip rfl (by decide) rfl ?_
                                              refine jl_y rfl (by decide) rfl (y_pick_false rfl rfl) ?_
                                              refine jl_y rfl (by decide) rfl (y_assign rfl) ?_
                                              refine jl_nil ?_
                                              refine jq_then ?_
                                              refine jc_ret ?_
                                              refine jq_ret1 rfl rfl ?_
                                              exact fun _ hw => ⟨rfl, (hbc.ch.then hw.ch)⟩
                                              )
                                          )
                                      · first
                                        | (exfalso; omega)
                                        | (
                                          refine jl_y rfl (by decide) rfl (y_pick_true rfl rfl) ?_
                                          refine jl_y rfl (by decide) rfl (y_move rfl) ?_
                                          refine jl_skip rfl (by decide) rfl ?_
                                          refine jl_skip rfl (by decide) rfl ?_
                                          refine jl_y rfl (by decide) rfl (y_pick_false rfl rfl) ?_
                                          refine jl_y rfl (by decide) rfl (y_move rfl) ?_
                                          refine jl_skip rfl (by decide) rfl ?_
                                          refine jl_skip rfl (by decide) rfl ?_
                                          refine jl_y rfl (by decide) rfl (y_pick_false rfl rfl) ?_
                                          refine jl_y rfl (by decide) rfl (y_move rfl) ?_
                                          refine jl_skip rfl (by decide) rfl ?_
                                          refine jl_skip rfl (by decide) rfl ?_
                                          refine jl_y rfl (by decide) rfl (y_pick_false rfl rfl) ?_
                                          refine jl_y rfl (by decide) rfl (y_move rfl) ?_
                                          refine jl_skip rfl (by decide) rfl ?_
                                          refine jl_skip rfl (by decide) rfl ?_
                                          refine jl_y rfl (by decide) rfl (y_pick_false rfl rfl) ?_
                                          refine jl_y rfl (by decide) rfl (y_move rfl) ?_
                                          refine jl_skip rfl (by decide) rfl ?_
                                          refine jl_skip rfl (by decide) rfl ?_
                                          refine jl_skip rfl (by decide) rfl ?_
                                          refine jl_skip rfl (by decide) rfl ?_
                                          refine jl_y rfl (by decide) rfl (y_pick_false rfl rfl) ?_
                                          refine jl_y rfl (by decide) rfl (y_move rfl) ?_
                                          refine jl_skip rfl (by decide) rfl ?_
                                          refine jl_skip rfl (by decide) rfl ?_
                                          refine jl_skip rfl (by decide) rfl ?_
                                          refine jl_skip rfl (by decide) rfl ?_
                                          refine jl_y rfl (by decide) rfl (y_pick_false rfl rfl) ?_
                                          refine jl_y rfl (by decide) rfl (y_move rfl) ?_
                                          refine jl_skip rfl (by decide) rfl ?_
                                          refine jl_skip rfl (by decide) rfl ?_
                                          refine jl_skip rfl (by decide) rfl ?_
                                          refine jl_skip rfl (by decide) rfl ?_
                                          refine jl_y rfl (by decide) rfl (y_pick_false rfl rfl) ?_
                                          refine jl_y rfl (by decide) rfl (y_move rfl) ?_
                                          refine jl_skip rfl (by decide) rfl ?_
                                          refine jl_skip rfl (by decide) rfl ?_
                                          refine jl_skip rfl (by decide) rfl ?_
                                          refine jl_y rfl (by decide) rfl (y_pick_false rfl rfl) ?_
                                          refine jl_y rfl (by decide) rfl (y_move rfl) ?_
                                          refine jl_skip rfl (by decide) rfl ?_
                                          refine jl_skip rfl (by decide) rfl ?_
                                          refine jl_skip rfl (by decide) rfl ?_
                                          refine jl_skip rfl (by decide) rfl ?_
                                          refine jl_skip rfl (by decide) rfl ?_
                                          refine jl_y rfl (by decide) rfl (y_pick_false rfl rfl) ?_
                                          refine jl_y rfl (by decide) rfl (y_move rfl) ?_
                                          refine jl_skip rfl (by decide) rfl ?_
                                          refine jl_skip rfl (by decide) rfl ?_
                                          refine jl_y rfl (by decide) rfl (y_pick_false rfl rfl) ?_
                                          refine jl_y rfl (by decide) rfl (y_assign rfl) ?_
                                          refine jl_nil ?_
                                          refine jq_then ?_
                                          refine jc_ret ?_
                                          refine jq_ret1 rfl rfl ?_
                                          exact fun _ hw => ⟨rfl, (hbc.ch.then hw.ch)⟩
                                          )
                                      )
                                  · first
                                    | (exfalso; omega)
                                    | (
                                      refine jl_y rfl (by decide) rfl (y_pick_false rfl rfl) ?_
                                      refine jl_y rfl (by decide) rfl (y_pick_true rfl rfl) ?_
                                      refine jl_y rfl (by decide) rfl (y_move rfl) ?_
                                      refine jl_skip rfl (by decide) rfl ?_
                                      refine jl_skip rfl (by decide) rfl ?_
                                      refine jl_y rfl (by decide) rfl (y_pick_false rfl rfl) ?_
                                      refine jl_y rfl (by decide) rfl (y_move rfl) ?_
                                      refine jl_skip rfl (by decide) rfl ?_
                                      refine jl_skip rfl (by decide) rfl ?_
                                      refine jl_y rfl (by decide) rfl (y_pick_false rfl rfl) ?_
                                      refine jl_y rfl (by decide) rfl (y_move rfl) ?_
                                      refine jl_skip rfl (by decide) rfl ?_
                                      refine jl_skip rfl (by decide) rfl ?_
                                      refine jl_y rfl (by decide) rfl (y_pick_false rfl rfl) ?_
                                      refine jl_y rfl (by decide) rfl (y_move rfl) ?_
                                      refine jl_skip rfl (by decide) rfl ?_
                                      refine jl_skip rfl (by decide) rfl ?_
                                      refine jl_y rfl (by decide) rfl (y_pick_false rfl rfl) ?_
                                      refine jl_y rfl (by decide) rfl (y_move rfl) ?_
                                      refine jl_skip rfl (by decide) rfl ?_
                                      refine jl_skip rfl (by decide) rfl ?_
                                      refine jl_y rfl (by decide) rfl (y_pick_false rfl rfl) ?_
                                      refine jl_y rfl (by decide) rfl (y_move rfl) ?_
                                      refine jl_skip rfl (by decide) rfl ?_
                                      refine jl_skip rfl (by decide) rfl ?_
                                      refine jl_skip rfl (by decide) rfl ?_
                                      refine jl_skip rfl (by decide) rfl ?_
                                      refine jl_y rfl (by decide) rfl (y_pick_false rfl rfl) ?_
                                      refine jl_y rfl (by decide) rfl (y_move rfl) ?_
                                      refine jl_skip rfl (by decide) rfl ?_
                                      refine jl_skip rfl (by decide) rfl ?_
                                      refine jl_skip rfl (by decide) rfl ?_
                                      refine jl_skip rfl (by decide) rfl ?_
                                      refine jl_y rfl (by decide) rfl (y_pick_false rfl rfl) ?_
                                      refine jl_y rfl (by decide) rfl (y_move rfl) ?_
                                      refine jl_skip rfl (by decide) rfl ?_
                                      refine jl_skip rfl (by decide) rfl ?_
                                      refine jl_skip rfl (by decide) rfl ?_
                                      refine jl_skip rfl (by decide) rfl ?_
                                      refine jl_y rfl (by decide) rfl (y_pick_false rfl rfl) ?_
                                      refine jl_y rfl (by decide) rfl (y_move rfl) ?_
                                      refine jl_skip rfl (by decide) rfl ?_
                                      refine jl_skip rfl (by decide) rfl ?_
                                      refine jl_skip rfl (by decide) rfl ?_
                                      refine jl_y rfl (by decide) rfl (y_pick_false rfl rfl) ?_
                                      refine jl_y rfl (by decide) rfl (y_move rfl) ?_
                                      refine jl_skip rfl (by decide) rfl ?_
                                      refine jl_skip rfl (by decide) rfl ?_
                                      refine jl_skip rfl (by decide) rfl ?_
                                      refine jl_skip rfl (by decide) rfl ?_
                                      refine jl_skip rfl (by decide) rfl ?_
                                      refine jl_y rfl (by decide) rfl (y_pick_false rfl rfl) ?_
                                      refine jl_y rfl (by decide) rfl (y_move rfl) ?_
                                      refine jl_skip rfl (by decide) rfl ?_
                                      refine jl_skip rfl (by decide) rfl ?_
                                      refine jl_y rfl (by decide) rfl (y_pick_false rfl rfl) ?_
                                      refine jl_y rfl (by decide) rfl (y_assign rfl) ?_
                                      refine jl_nil ?_
                                      refine jq_then ?_
                                      refine jc_ret ?_
                                      refine jq_ret1 rfl rfl ?_
                                      exact fun _ hw => ⟨rfl, (hbc.ch.then hw.ch)⟩
                                      )
                                  )
                              )
                          · first
                            | (exfalso; omega)
                            | (
                              refine jl_y rfl (by decide) rfl (y_pick_true rfl rfl) ?_
                              refine jl_y rfl (by decide) rfl (y_move rfl) ?_
                              refine jl_skip rfl (by decide) rfl ?_
                              refine jl_skip rfl (by decide) rfl ?_
                              refine jl_skip rfl (by decide) rfl ?_
                              refine jl_skip rfl (by decide) rfl ?_
                              refine jl_skip rfl (by decide) rfl ?_
                              refine jl_skip rfl (by decide) rfl ?_
                              refine jl_y rfl (by decide) rfl (y_pick_false rfl rfl) ?_
                              refine jl_y rfl (by decide) rfl (y_move rfl) ?_
                              refine jl_skip rfl (by decide) rfl ?_
                              refine jl_skip rfl (by decide) rfl ?_
                              refine jl_y rfl (by decide) rfl (y_pick_false rfl rfl) ?_
                              refine jl_y rfl (by decide) rfl (y_move rfl) ?_
                              refine jl_skip rfl (by decide) rfl ?_
                              refine jl_skip rfl (by decide) rfl ?_
                              refine jl_y rfl (by decide) rfl (y_pick_false rfl rfl) ?_
                              refine jl_y rfl (by decide) rfl (y_move rfl) ?_
                              refine jl_skip rfl (by decide) rfl ?_
                              refine jl_skip rfl (by decide) rfl ?_
                              refine jl_y rfl (by decide) rfl (y_pick_false rfl rfl) ?_
                              refine jl_y rfl (by decide) rfl (y_move rfl) ?_
                              refine jl_skip rfl (by decide) rfl ?_
                              refine jl_skip rfl (by decide) rfl ?_
                              refine jl_y rfl (by decide) rfl (y_pick_false rfl rfl) ?_
                              refine jl_y rfl (by decide) rfl (y_move rfl) ?_
                              refine jl_skip rfl (by decide) rfl ?_
                              refine jl_skip rfl (by decide) rfl ?_
                              refine jl_y rfl (by decide) rfl (y_pick_false rfl rfl) ?_
                              refine jl_y rfl (by decide) rfl (y_move rfl) ?_
                              refine jl_skip rfl (by decide) rfl ?_
                              refine jl_skip rfl (by decide) rfl ?_
                              refine jl_skip rfl (by decide) rfl ?_
                              refine jl_skip rfl (by decide) rfl ?_
                              refine jl_y rfl (by decide) rfl (y_pick_false rfl rfl) ?_
                              refine jl_y rfl (by decide) rfl (y_move rfl) ?_
                              refine jl_skip rfl (by decide) rfl ?_
                              refine jl_skip rfl (by decide) rfl ?_
                              refine jl_skip rfl (by decide) rfl ?_
                              refine jl_skip rfl (by decide) rfl ?_
                              refine jl_y rfl (by decide) rfl (y_pick_false rfl rfl) ?_
                              refine jl_y rfl (by decide) rfl (y_move rfl) ?_
                              refine jl_skip rfl (by decide) rfl ?_
                              refine jl_skip rfl (by decide) rfl ?_
                              refine jl_skip rfl (by decide) rfl ?_
                              refine jl_skip rfl (by decide) rfl ?_
                              refine jl_y rfl (by decide) rfl (y_pick_false rfl rfl) ?_
                              refine jl_y rfl (by decide) rfl (y_move rfl) ?_
                              refine jl_skip rfl (by decide) rfl ?_
                              refine jl_skip rfl (by decide) rfl ?_
                              refine jl_skip rfl (by decide) rfl ?_
                              refine jl_y rfl (by decide) rfl (y_pick_false rfl rfl) ?_
                              refine jl_y rfl (by decide) rfl (y_move rfl) ?_
                              refine jl_skip rfl (by decide) rfl ?_
                              refine jl_skip rfl (by decide) rfl ?_
                              refine jl_skip rfl (by decide) rfl ?_
                              refine jl_skip rfl (by decide) rfl ?_
                              refine jl_skip rfl (by decide) rfl ?_
                              refine jl_y rfl (by decide) rfl (y_pick_false rfl rfl) ?_
                              refine jl_y rfl (by decide) rfl (y_move rfl) ?_
                              refine jl_skip rfl (by decide) rfl ?_
                              refine jl_skip rfl (by decide) rfl ?_
                              refine jl_y rfl (by decide) rfl (y_pick_false rfl rfl) ?_
                              refine jl_y rfl (by decide) rfl (y_assign rfl) ?_
                              refine jl_nil ?_
                              refine jq_then ?_
                              refine jc_ret ?_
                              refine jq_ret1 rfl rfl ?_
                              exact fun _ hw => ⟨rfl, (hbc.ch.then hw.ch)⟩
                              )
                          )
                      · first
                        | (exfalso; omega)
                        | (
                          refine jl_y rfl (by decide) rfl (y_pick_true rfl rfl) ?_
                          refine jl_y rfl (by decide) rfl (y_move rfl) ?_
                          refine jl_skip rfl (by decide) rfl ?_
                          refine jl_skip rfl (by decide) rfl ?_
                          refine jl_y rfl (by decide) rfl (y_pick_false rfl rfl) ?_
                          refine jl_y rfl (by decide) rfl (y_move rfl) ?_
                          refine jl_skip rfl (by decide) rfl ?_
                          refine jl_skip rfl (by decide) rfl ?_
                          refine jl_skip rfl (by decide) rfl ?_
                          refine jl_skip rfl (by decide) rfl ?_
                          refine jl_skip rfl (by decide) rfl ?_
                          refine jl_skip rfl (by decide) rfl ?_
                          refine jl_y rfl (by decide) rfl (y_pick_false rfl rfl) ?_
                          refine jl_y rfl (by decide) rfl (y_move rfl) ?_
                          refine jl_skip rfl (by decide) rfl ?_
                          refine jl_skip rfl (by decide) rfl ?_
                          refine jl_y rfl (by decide) rfl (y_pick_false rfl rfl) ?_
                          refine jl_y rfl (by decide) rfl (y_move rfl) ?_
                          refine jl_skip rfl (by decide) rfl ?_
                          refine jl_skip rfl (by decide) rfl ?_
                          refine jl_y rfl (by decide) rfl (y_pick_false rfl rfl) ?_
                          refine jl_y rfl (by decide) rfl (y_move rfl) ?_
                          refine jl_skip rfl (by decide) rfl ?_
                          refine jl_skip rfl (by decide) rfl ?_
                          refine jl_y rfl (by decide) rfl (y_pick_false rfl rfl) ?_
                          refine jl_y rfl (by decide) rfl (y_move rfl) ?_
                          refine jl_skip rfl (by decide) rfl ?_
                          refine jl_skip rfl (by decide) rfl ?_
                          refine jl_y rfl (by decide) rfl (y_pick_false rfl rfl) ?_
                          refine jl_y rfl (by decide) rfl (y_move rfl) ?_
                          refine jl_skip rfl (by decide) rfl ?_
                          refine jl_skip rfl (by decide) rfl ?_
                          refine jl_y rfl (by decide) rfl (y_pick_false rfl rfl) ?_
                          refine jl_y rfl (by decide) rfl (y_move rfl) ?_
                          refine jl_skip rfl (by decide) rfl ?_
                          refine jl_skip rfl (by decide) rfl ?_
                          refine jl_skip rfl (by decide) rfl ?_
                          refine jl_skip rfl (by decide) rfl ?_
                          refine jl_y rfl (by decide) rfl (y_pick_false rfl rfl) ?_
                          refine jl_y rfl (by decide) rfl (y_move rfl) ?_
                          refine jl_skip rfl (by decide) rfl ?_
                          refine jl_skip rfl (by decide) rfl ?_
                          refine jl_skip rfl (by decide) rfl ?_
                          refine jl_skip rfl (by decide) rfl ?_
                          refine jl_y rfl (by decide) rfl (y_pick_false rfl rfl) ?_
                          refine jl_y rfl (by decide) rfl (y_move rfl) ?_
                          refine jl_skip rfl (by decide) rfl ?_
                          refine jl_skip rfl (by decide) rfl ?_
                          refine jl_skip rfl (by decide) rfl ?_
                          refine jl_skip rfl (by decide) rfl ?_
                          refine jl_y rfl (by decide) rfl (y_pick_false rfl rfl) ?_
                          refine jl_y rfl (by decide) rfl (y_move rfl) ?_
                          refine jl_skip rfl (by decide) rfl ?_
                          refine jl_skip rfl (by decide) rfl ?_
                          refine jl_skip rfl (by decide) rfl ?_
                          refine jl_y rfl (by decide) rfl (y_pick_false rfl rfl) ?_
                          refine jl_y rfl (by decide) rfl (y_move rfl) ?_
                          refine jl_skip rfl (by decide) rfl ?_
                          refine jl_skip rfl (by decide) rfl ?_
                          refine jl_skip rfl (by decide) rfl ?_
                          refine jl_skip rfl (by decide) rfl ?_
                          refine jl_skip rfl (by decide) rfl ?_
                          refine jl_y rfl (by decide) rfl (y_pick_false rfl rfl) ?_
                          refine jl_y rfl (by decide) rfl (y_move rfl) ?_
                          refine jl_skip rfl (by decide) rfl ?_
                          refine jl_skip rfl (by decide) rfl ?_
                          refine jl_y rfl (by decide) rfl (y_pick_false rfl rfl) ?_
                          refine jl_y rfl (by decide) rfl (y_assign rfl) ?_
                          refine jl_nil ?_
                          refine jq_then ?_
                          refine jc_ret ?_
                          refine jq_ret1 rfl rfl ?_
                          exact fun _ hw => ⟨rfl, (hbc.ch.then hw.ch)⟩
                          )
                      )
                  · first
                    | (exfalso; omega)
                    | (
                      refine jl_y rfl (by decide) rfl (y_pick_true rfl rfl) ?_
                      refine jl_y rfl (by decide) rfl (y_move rfl) ?_
                      refine jl_skip rfl (by decide) rfl ?_
                      refine jl_skip rfl (by decide) rfl ?_
                      refine jl_y rfl (by decide) rfl (y_pick_false rfl rfl) ?_
                      refine jl_y rfl (by decide) rfl (y_move rfl) ?_
                      refine jl_skip rfl (by decide) rfl ?_
                      refine jl_skip rfl (by decide) rfl ?_
                      refine jl_y rfl (by decide) rfl (y_pick_false rfl rfl) ?_
                      refine jl_y rfl (by decide) rfl (y_move rfl) ?_
                      refine jl_skip rfl (by decide) rfl ?_
                      refine jl_skip rfl (by decide) rfl ?_
                      refine jl_skip rfl (by decide) rfl ?_
                      refine jl_skip rfl (by decide) rfl ?_
                      refine jl_skip rfl (by decide) rfl ?_
                      refine jl_skip rfl (by decide) rfl ?_
                      refine jl_y rfl (by decide) rfl (y_pick_false rfl rfl) ?_
                      refine jl_y rfl (by decide) rfl (y_move rfl) ?_
                      refine jl_skip rfl (by decide) rfl ?_
                      refine jl_skip rfl (by decide) rfl ?_
                      refine jl_y rfl (by decide) rfl (y_pick_false rfl rfl) ?_
                      refine jl_y rfl (by decide) rfl (y_move rfl) ?_
                      refine jl_skip rfl (by decide) rfl ?_
                      refine jl_skip rfl (by decide) rfl ?_
                      refine jl_y rfl (by decide) rfl (y_pick_false rfl rfl) ?_
                      refine jl_y rfl (by decide) rfl (y_move rfl) ?_
                      refine jl_skip rfl (by decide) rfl ?_
                      refine jl_skip rfl (by decide) rfl ?_
                      refine jl_y rfl (by decide) rfl (y_pick_false rfl rfl) ?_
                      refine jl_y rfl (by decide) rfl (y_move rfl) ?_
                      refine jl_skip rfl (by decide) rfl ?_
                      refine jl_skip rfl (by decide) rfl ?_
                      refine jl_y rfl (by decide) rfl (y_pick_false rfl rfl) ?_
                      refine jl_y rfl (by decide) rfl (y_move rfl) ?_
                      refine jl_skip rfl (by decide) rfl ?_
                      refine jl_skip rfl (by decide) rfl ?_
                      refine jl_y rfl (by decide) rfl (y_pick_false rfl rfl) ?_
                      refine jl_y rfl (by decide) rfl (y_move rfl) ?_
                      refine jl_skip rfl (by decide) rfl ?_
                      refine jl_skip rfl (by decide) rfl ?_
                      refine jl_skip rfl (by decide) rfl ?_
                      refine jl_skip rfl (by decide) rfl ?_
                      refine jl_y rfl (by decide) rfl (y_pick_false rfl rfl) ?_
                      refine jl_y rfl (by decide) rfl (y_move rfl) ?_
                      refine jl_skip rfl (by decide) rfl ?_
                      refine jl_skip rfl (by decide) rfl ?_
                      refine jl_skip rfl (by decide) rfl ?_
                      refine jl_skip rfl (by decide) rfl ?_
                      refine jl_y rfl (by decide) rfl (y_pick_false rfl rfl) ?_
                      refine jl_y rfl (by decide) rfl (y_move rfl) ?_
                      refine jl_skip rfl (by decide) rfl ?_
                      refine jl_skip rfl (by decide) rfl ?_
                      refine jl_skip rfl (by decide) rfl ?_
                      refine jl_skip rfl (by decide) rfl ?_
                      refine jl_y rfl (by decide) rfl (y_pick_false rfl rfl) ?_
                      refine jl_y rfl (by decide) rfl (y_move rfl) ?_
                      refine jl_skip rfl (by decide) rfl ?_
                      refine jl_skip rfl (by decide) rfl ?_
                      refine jl_skip rfl (by decide) rfl ?_
                      refine jl_y rfl (by decide) rfl (y_pick_false rfl rfl) ?_
                      refine jl_y rfl (by decide) rfl (y_move rfl) ?_
                      refine jl_skip rfl (by decide) rfl ?_
                      refine jl_skip rfl (by decide) rfl ?_
                      refine jl_skip rfl (by decide) rfl ?_
                      refine jl_skip rfl (by decide) rfl ?_
                      refine jl_skip rfl (by decide) rfl ?_
                      refine jl_y rfl (by decide) rfl (y_pick_false rfl rfl) ?_
                      refine jl_y rfl (by decide) rfl (y_move rfl) ?_
                      refine jl_skip rfl (by decide) rfl ?_
                      refine jl_skip rfl (by decide) rfl ?_
                      refine jl_y rfl (by decide) rfl (y_pick_false rfl rfl) ?_
                      refine jl_y rfl (by decide) rfl (y_assign rfl) ?_
                      refine jl_nil ?_
                      refine jq_then ?_
                      refine jc_ret ?_
                      refine jq_ret1 rfl rfl ?_
                      exact fun _ hw => ⟨rfl, (hbc.ch.then hw.ch)⟩
                      )
                  )
              · first
                | (exfalso; omega)
                | (
                  refine jl_y rfl (by decide) rfl (y_pick_true rfl rfl) ?_
                  refine jl_y rfl (by decide) rfl (y_move rfl) ?_
                  refine jl_skip rfl (by decide) rfl ?_
                  refine jl_skip rfl (by decide) rfl ?_
                  refine jl_y rfl (by decide) rfl (y_pick_false rfl rfl) ?_
                  refine jl_y rfl (by decide) rfl (y_move rfl) ?_
                  refine jl_skip rfl (by decide) rfl ?_
                  refine jl_skip rfl (by decide) rfl ?_
                  refine jl_y rfl (by decide) rfl (y_pick_false rfl rfl) ?_
                  refine jl_y rfl (by decide) rfl (y_move rfl) ?_
                  refine jl_skip rfl (by decide) rfl ?_
                  refine jl_skip rfl (by decide) rfl ?_
                  refine jl_y rfl (by decide) rfl (y_pick_false rfl rfl) ?_
                  refine jl_y rfl (by decide) rfl (y_move rfl) ?_
                  refine jl_skip rfl (by decide) rfl ?_
                  refine jl_skip rfl (by decide) rfl ?_
                  refine jl_skip rfl (by decide) rfl ?_
                  refine jl_skip rfl (by decide) rfl ?_
                  refine jl_skip rfl (by decide) rfl ?_
                  refine jl_skip rfl (by decide) rfl ?_
                  refine jl_y rfl (by decide) rfl (y_pick_false rfl rfl) ?_
                  refine jl_y rfl (by decide) rfl (y_move rfl) ?_
                  refine jl_skip rfl (by decide) rfl ?_
                  refine jl_skip rfl (by decide) rfl ?_
                  refine jl_y rfl (by decide) rfl (y_pick_false rfl rfl) ?_
                  refine jl_y rfl (by decide) rfl (y_move rfl) ?_
                  refine jl_skip rfl (by decide) rfl ?_
                  refine jl_skip rfl (by decide) rfl ?_
                  refine jl_y rfl (by decide) rfl (y_pick_false rfl rfl) ?_
                  refine jl_y rfl (by decide) rfl (y_move rfl) ?_
                  refine jl_skip rfl (by decide) rfl ?_
                  refine jl_skip rfl (by decide) rfl ?_
                  refine jl_y rfl (by decide) rfl (y_pick_false rfl rfl) ?_
                  refine jl_y rfl (by decide) rfl (y_move rfl) ?_
                  refine jl_skip rfl (by decide) rfl ?_
                  refine jl_skip rfl (by decide) rfl ?_
                  refine jl_y rfl (by decide) rfl (y_pick_false rfl rfl) ?_
                  refine jl_y rfl (by decide) rfl (y_move rfl) ?_
                  refine jl_skip rfl (by decide) rfl ?_
                  refine jl_skip rfl (by decide) rfl ?_
                  refine jl_y rfl (by decide) rfl (y_pick_false rfl rfl) ?_
                  refine jl_y rfl (by decide) rfl (y_move rfl) ?_
                  refine jl_skip rfl (by decide) rfl ?_
                  refine jl_skip rfl (by decide) rfl ?_
                  refine jl_skip rfl (by decide) rfl ?_
                  refine jl_skip rfl (by decide) rfl ?_
                  refine jl_y rfl (by decide) rfl (y_pick_false rfl rfl) ?_
                  refine jl_y rfl (by decide) rfl (y_move rfl) ?_
                  refine jl_skip rfl (by decide) rfl ?_
                  refine jl_skip rfl (by decide) rfl ?_
                  refine jl_skip rfl (by decide) rfl ?_
                  refine jl_skip rfl (by decide) rfl ?_
                  refine jl_y rfl (by decide) rfl (y_pick_false rfl rfl) ?_
                  refine jl_y rfl (by decide) rfl (y_move rfl) ?_
                  refine jl_skip rfl (by decide) rfl ?_
                  refine jl_skip rfl (by decide) rfl ?_
                  refine jl_skip rfl (by decide) rfl ?_
                  refine jl_skip rfl (by decide) rfl ?_
                  refine jl_y rfl (by decide) rfl (y_pick_false rfl rfl) ?_
                  refine jl_y rfl (by decide) rfl (y_move rfl) ?_
                  refine jl_skip rfl (by decide) rfl ?_
                  refine jl_skip rfl (by decide) rfl ?_
                  refine jl_skip rfl (by decide) rfl ?_
                  refine jl_y rfl (by decide) rfl (y_pick_false rfl rfl) ?_
                  refine jl_y rfl (by decide) rfl (y_move rfl) ?_
                  refine jl_skip rfl (by decide) rfl ?_
                  refine jl_skip rfl (by decide) rfl ?_
                  refine jl_skip rfl (by decide) rfl ?_
                  refine jl_skip rfl (by decide) rfl ?_
                  refine jl_skip rfl (by decide) rfl ?_
                  refine jl_y rfl (by decide) rfl (y_pick_false rfl rfl) ?_
                  refine jl_y rfl (by decide) rfl (y_move rfl) ?_
                  refine jl_skip rfl (by decide) rfl ?_
                  refine jl_skip rfl (by decide) rfl ?_
                  refine jl_y rfl (by decide) rfl (y_pick_false rfl rfl) ?_
                  refine jl_y rfl (by decide) rfl (y_assign rfl) ?_
                  refine jl_nil ?_
                  refine jq_then ?_
                  refine jc_ret ?_
                  refine jq_ret1 rfl rfl ?_
                  exact fun _ hw => ⟨rfl, (hbc.ch.then hw.ch)⟩
                  )
              )
          · first
            | (exfalso; omega)
            | (
              refine jl_y rfl (by decide) rfl (y_pick_true rfl rfl) ?_
              refine jl_y rfl (by decide) rfl (y_move rfl) ?_
              refine jl_skip rfl (by decide) rfl ?_
              refine jl_skip rfl (by decide) rfl ?_
              refine jl_y rfl (by decide) rfl (y_pick_false rfl rfl) ?_
              refine jl_y rfl (by decide) rfl (y_move rfl) ?_
              refine jl_skip rfl (by decide) rfl ?_
              refine jl_skip rfl (by decide) rfl ?_
              refine jl_y rfl (by decide) rfl (y_pick_false rfl rfl) ?_
              refine jl_y rfl (by decide) rfl (y_move rfl) ?_
              refine jl_skip rfl (by decide) rfl ?_
              refine jl_skip rfl (by decide) rfl ?_
              refine jl_y rfl (by decide) rfl (y_pick_false rfl rfl) ?_
              refine jl_y rfl (by decide) rfl (y_move rfl) ?_
              refine jl_skip rfl (by decide) rfl ?_
              refine jl_skip rfl (by decide) rfl ?_
              refine jl_y rfl (by decide) rfl (y_pick_false rfl rfl) ?_
              refine jl_y rfl (by decide) rfl (y_move rfl) ?_
              refine jl_skip rfl (by decide) rfl ?_
              refine jl_skip rfl (by decide) rfl ?_
              refine jl_skip rfl (by decide) rfl ?_
              refine jl_skip rfl (by decide) rfl ?_
              refine jl_skip rfl (by decide) rfl ?_
              refine jl_skip rfl (by decide) rfl ?_
              refine jl_y rfl (by decide) rfl (y_pick_false rfl rfl) ?_
              refine jl_y rfl (by decide) rfl (y_move rfl) ?_
              refine jl_skip rfl (by decide) rfl ?_
              refine jl_skip rfl (by decide) rfl ?_
              refine jl_y rfl (by decide) rfl (y_pick_false rfl rfl) ?_
              refine jl_y rfl (by decide) rfl (y_move rfl) ?_
              refine jl_skip rfl (by decide) rfl ?_
              refine jl_skip rfl (by decide) rfl ?_
              refine jl_y rfl (by decide) rfl (y_pick_false rfl rfl) ?_
              refine jl_y rfl (by decide) rfl (y_move rfl) ?_
              refine jl_skip rfl (by decide) rfl ?_
              refine jl_skip rfl (by decide) rfl ?_
              refine jl_y rfl (by decide) rfl (y_pick_false rfl rfl) ?_
              refine jl_y rfl (by decide) rfl (y_move rfl) ?_
              refine jl_skip rfl (by decide) rfl ?_
              refine jl_skip rfl (by decide) rfl ?_
              refine jl_y rfl (by decide) rfl (y_pick_false rfl rfl) ?_
              refine jl_y rfl (by decide) rfl (y_move rfl) ?_
              refine jl_skip rfl (by decide) rfl ?_
              refine jl_skip rfl (by decide) rfl ?_
              refine jl_y rfl (by decide) rfl (y_pick_false rfl rfl) ?_
              refine jl_y rfl (by decide) rfl (y_move rfl) ?_
              refine jl_skip rfl (by decide) rfl ?_
              refine jl_skip rfl (by decide) rfl ?_
              refine jl_skip rfl (by decide) rfl ?_
              refine jl_skip rfl (by decide) rfl ?_
              refine jl_y rfl (by decide) rfl (y_pick_false rfl rfl) ?_
              refine jl_y rfl (by decide) rfl (y_move rfl) ?_
              refine jl_skip rfl (by decide) rfl ?_
              refine jl_skip rfl (by decide) rfl ?_
              refine jl_skip rfl (by decide) rfl ?_
              refine jl_skip rfl (by decide) rfl ?_
              refine jl_y rfl (by decide) rfl (y_pick_false rfl rfl) ?_
              refine jl_y rfl (by decide) rfl (y_move rfl) ?_
              refine jl_skip rfl (by decide) rfl ?_
              refine jl_skip rfl (by decide) rfl ?_
              refine jl_skip rfl (by decide) rfl ?_
              refine jl_skip rfl (by decide) rfl ?_
              refine jl_y rfl (by decide) rfl (y_pick_false rfl rfl) ?_
              refine jl_y rfl (by decide) rfl (y_move rfl) ?_
              refine jl_skip rfl (by decide) rfl ?_
              refine jl_skip rfl (by decide) rfl ?_
              refine jl_skip rfl (by decide) rfl ?_
              refine jl_y rfl (by decide) rfl (y_pick_false rfl rfl) ?_
              refine jl_y rfl (by decide) rfl (y_move rfl) ?_
              refine jl_skip rfl (by decide) rfl ?_
              refine jl_skip rfl (by decide) rfl ?_
              refine jl_skip rfl (by decide) rfl ?_
              refine jl_skip rfl (by decide) rfl ?_
              refine jl_skip rfl (by decide) rfl ?_
              refine jl_y rfl (by decide) rfl (y_pick_false rfl rfl) ?_
              refine jl_y rfl (by decide) rfl (y_move rfl) ?_
              refine jl_skip rfl (by decide) rfl ?_
              refine jl_skip rfl (by decide) rfl ?_
              refine jl_y rfl (by decide) rfl (y_pick_false rfl rfl) ?_
              refine jl_y rfl (by decide) rfl (y_assign rfl) ?_
              refine jl_nil ?_
              refine jq_then ?_
              refine jc_ret ?_
              refine jq_ret1 rfl rfl ?_
              exact fun _ hw => ⟨rfl, (hbc.ch.then hw.ch)⟩
              )
          )
      · first
        | (exfalso; omega)
        | (
          refine jl_y rfl (by decide) rfl (y_move rfl) ?_
          refine jl_skip rfl (by decide) rfl ?_
          refine jl_skip rfl (by decide) rfl ?_
          refine jl_y rfl (by decide) rfl (y_pick_false rfl rfl) ?_
          refine jl_y rfl (by decide) rfl (y_move rfl) ?_
          refine jl_skip rfl (by decide) rfl ?_
          refine jl_skip rfl (by decide) rfl ?_
          refine jl_y rfl (by decide) rfl (y_pick_false rfl rfl) ?_
          refine jl_y rfl (by decide) rfl (y_move rfl) ?_
          refine jl_skip rfl (by decide) rfl ?_
          refine jl_skip rfl (by decide) rfl ?_
          refine jl_y rfl (by decide) rfl (y_pick_false rfl rfl) ?_
          refine jl_y rfl (by decide) rfl (y_move rfl) ?_
          refine jl_skip rfl (by decide) rfl ?_
          refine jl_skip rfl (by decide) rfl ?_
          refine jl_y rfl (by decide) rfl (y_pick_false rfl rfl) ?_
          refine jl_y rfl (by decide) rfl (y_move rfl) ?_
          refine jl_skip rfl (by decide) rfl ?_
          refine jl_skip rfl (by decide) rfl ?_
          refine jl_y rfl (by decide) rfl (y_pick_false rfl rfl) ?_
          refine jl_y rfl (by decide) rfl (y_move rfl) ?_
          refine jl_skip rfl (by decide) rfl ?_
          refine jl_skip rfl (by decide) rfl ?_
          refine jl_skip rfl (by decide) rfl ?_
          refine jl_skip rfl (by decide) rfl ?_
          refine jl_skip rfl (by decide) rfl ?_
          refine jl_skip rfl (by decide) rfl ?_
          refine jl_y rfl (by decide) rfl (y_pick_false rfl rfl) ?_
          refine jl_y rfl (by decide) rfl (y_move rfl) ?_
          refine jl_skip rfl (by decide) rfl ?_
          refine jl_skip rfl (by decide) rfl ?_
          refine jl_y rfl (by decide) rfl (y_pick_false rfl rfl) ?_
          refine jl_y rfl (by decide) rfl (y_move rfl) ?_
          refine jl_skip rfl (by decide) rfl ?_
          refine jl_skip rfl (by decide) rfl ?_
          refine jl_y rfl (by decide) rfl (y_pick_false rfl rfl) ?_
          refine jl_y rfl (by decide) rfl (y_move rfl) ?_
          refine jl_skip rfl (by decide) rfl ?_
          refine jl_skip rfl (by decide) rfl ?_
          refine jl_y rfl (by decide) rfl (y_pick_false rfl rfl) ?_
          refine jl_y rfl (by decide) rfl (y_move rfl) ?_
          refine jl_skip rfl (by decide) rfl ?_
          refine jl_skip rfl (by decide) rfl ?_
          refine jl_y rfl (by decide) rfl (y_pick_false rfl rfl) ?_
          refine jl_y rfl (by decide) rfl (y_move rfl) ?_
          refine jl_skip rfl (by decide) rfl ?_
          refine jl_skip rfl (by decide) rfl ?_
          refine jl_y rfl (by decide) rfl (y_pick_false rfl rfl) ?_
          refine jl_y rfl (by decide) rfl (y_move rfl) ?_
          refine jl_skip rfl (by decide) rfl ?_
          refine jl_skip rfl (by decide) rfl ?_
          refine jl_skip rfl (by decide) rfl ?_
          refine jl_skip rfl (by decide) rfl ?_
          refine jl_y rfl (by decide) rfl (y_pick_false rfl rfl) ?_
          refine jl_y rfl (by decide) rfl (y_move rfl) ?_
          refine jl_skip rfl (by decide) rfl ?_
          refine jl_skip rfl (by decide) rfl ?_
          refine jl_skip rfl (by decide) rfl ?_
          refine jl_skip rfl (by decide) rfl ?_
          refine jl_y rfl (by decide) rfl (y_pick_false rfl rfl) ?_
          refine jl_y rfl (by decide) rfl (y_move rfl) ?_
          refine jl_skip rfl (by decide) rfl ?_
          refine jl_skip rfl (by decide) rfl ?_
          refine jl_skip rfl (by decide) rfl ?_
          refine jl_skip rfl (by decide) rfl ?_
          refine jl_y rfl (by decide) rfl (y_pick_false rfl rfl) ?_
          refine jl_y rfl (by decide) rfl (y_move rfl) ?_
          refine jl_skip rfl (by decide) rfl ?_
          refine jl_skip rfl (by decide) rfl ?_
          refine jl_skip rfl (by decide) rfl ?_
          refine jl_y rfl (by decide) rfl (y_pick_false rfl rfl) ?_
          refine jl_y rfl (by decide) rfl (y_move rfl) ?_
          refine jl_skip rfl (by decide) rfl ?_
          refine jl_skip rfl (by decide) rfl ?_
          refine jl_skip rfl (by decide) rfl ?_
          refine jl_skip rfl (by decide) rfl ?_
          refine jl_skip rfl (by decide) rfl ?_
          refine jl_y rfl (by decide) rfl (y_pick_false rfl rfl) ?_
          refine jl_y rfl (by decide) rfl (y_move rfl) ?_
          refine jl_skip rfl (by decide) rfl ?_
          refine jl_skip rfl (by decide) rfl ?_
          refine jl_y rfl (by decide) rfl (y_pick_false rfl rfl) ?_
          refine jl_y rfl (by decide) rfl (y_assign rfl) ?_
          refine jl_nil ?_
          refine jq_then ?_
          refine jc_ret ?_
          refine jq_ret1 rfl rfl ?_
          exact fun _ hw => ⟨rfl, (hbc.ch.then hw.ch)⟩
          )
      )

theorem paywordLeads_any (seed : ByteArray) (x0 x1 x2 : Int) (w : World) (h0 : fits .u8 x0) (h1 : fits .u8 x1) (h2 : fits .u8 x2) :
    Calls Try.prog 5 #[.string seed, .agg #[.int .u8 x0, .int .u8 x1, .int .u8 x2]] w fun e w' => e = .returned (.bool true) ∧ Ch [] w w' := by
  simp only [fits] at *
  have hcs := cutS_size seed 100
  obtain ⟨m, hm⟩ : ∃ m : Nat, (m : Int) = 1 + x0 % 200 := ⟨(1 + x0 % 200).toNat, by omega⟩
  have e1 := Int.emod_nonneg x1 (show (m : Int) + 1 ≠ 0 by omega)
  have e2 := Int.emod_lt_of_pos x1 (show 0 < (m : Int) + 1 by omega)
  obtain ⟨a, ha⟩ : ∃ a : Nat, (a : Int) = x1 % ((m : Int) + 1) := ⟨(x1 % ((m : Int) + 1)).toNat, by omega⟩
  have e3 := Int.emod_nonneg x2 (show (a : Int) + 1 ≠ 0 by omega)
  have e4 := Int.emod_lt_of_pos x2 (show 0 < (a : Int) + 1 by omega)
  obtain ⟨p, hp⟩ : ∃ p : Nat, (p : Int) = x2 % ((a : Int) + 1) := ⟨(x2 % ((a : Int) + 1)).toNat, by omega⟩
  have hk := @cnt_tok (cutS seed 100) m a m (by omega) (by omega) (by omega)
  refine calls_of (n := 140) (E := [(0, .string seed), (1, .agg #[.int .u8 x0, .int .u8 x1, .int .u8 x2])]) (W := Hp w [] []) Try.func5 rfl rfl (Nat.le_of_ble_eq_true rfl) rfl (Hp.nil _ _) ?_
  refine jc_seq ?_
  -- region 0
  refine jc_region ?_
  refine jl_m rfl (by decide) rfl (m_box rfl rfl) (fun b3 => ?_)
  refine jl_y rfl (by decide) rfl (y_assign rfl) ?_
  refine jl_nil ?_
  refine jq_then ?_
  refine jc_seq ?_
  -- region 1
  refine jc_region ?_
  refine jl_y rfl (by decide) rfl (y_move rfl) ?_
  refine jl_y rfl (by decide) rfl (y_move rfl) ?_
  refine jl_y rfl (by decide) rfl (y_len_str rfl) ?_
  refine jl_y rfl (by decide) rfl (y_min rfl rfl) ?_
  refine jl_y rfl (by decide) rfl (y_substr_hi rfl rfl (by omega) (by omega)) ?_
  refine jl_as (congrArg Value.string (cut_eq _ 100)) ?_
  refine jl_y rfl (by decide) rfl (y_assign rfl) ?_
  refine jl_nil ?_
  refine jq_then ?_
  refine jc_seq ?_
  -- region 2
  refine jc_region ?_
  refine jl_y rfl (by decide) rfl (y_indexAddr_arr rfl rfl (by omega) (by omega) (by simp only [Int.toNat_natCast, Int.reduceSub, Int.reduceAdd, Int.reduceToNat, Nat.reduceMul, Nat.reduceAdd, Nat.zero_add, Nat.mul_one, Nat.zero_mul, Nat.add_zero]; exact rfl)) ?_
  first | refine jl_y rfl (by decide) rfl (y_load rfl (by first | exact mem0 | exact mem1 | exact mem2 | exact mem3 | exact mem4 | exact mem5) rfl) ?_ | refine jl_y rfl (by decide) rfl (y_load_row rfl (by first | exact mem0 | exact mem1 | exact mem2 | exact mem3 | exact mem4 | exact mem5) rfl) ?_ | refine jl_y rfl (by decide) rfl (y_load_old rfl (by assumption) (by simp)) ?_
  first | refine jl_y rfl (by decide) rfl (y_conv_fits rfl (by simp only [fits]; omega)) ?_
  refine jl_y rfl (by decide) rfl (y_rem rfl rfl (by omega) (by omega)) ?_
  refine jl_y rfl (by decide) rfl (y_add_fits rfl rfl (by simp only [fits]; omega)) ?_
  refine jl_as (u := .int .i64 ((m : Nat) : Int)) (congrArg (Value.int .i64) (by omega)) ?_
  refine jl_y rfl (by decide) rfl (y_assign rfl) ?_
  refine jl_nil ?_
  refine jq_then ?_
  refine jc_seq ?_
  -- region 3
  refine jc_rebase (fun wx hbx => ?_)
  have hx0 := CellAt.of_cells (hbx.get (A := .cells b3 [.int .u8 x0, .int .u8 x1, .int .u8 x2]) mem0) (o := 0) rfl
  have hx1 := CellAt.of_cells (hbx.get (A := .cells b3 [.int .u8 x0, .int .u8 x1, .int .u8 x2]) mem0) (o := 1) rfl
  have hx2 := CellAt.of_cells (hbx.get (A := .cells b3 [.int .u8 x0, .int .u8 x1, .int .u8 x2]) mem0) (o := 2) rfl
  refine jc_region ?_
  refine jl_y rfl (by decide) rfl (y_move rfl) ?_
  refine jl_y rfl (by decide) rfl (y_move rfl) ?_
  refine jl_kcall rfl (by decide) rfl (goes_func rfl) (fun w1 hw1 => new_ok ((cutS seed 100)) (m) w1 (by omega) (by omega) (by omega)) (fun bc wc hbc hcc => ?_)
  replace hx0 := hx0.keep hbc
  replace hx1 := hx1.keep hbc
  replace hx2 := hx2.keep hbc
  refine jl_y rfl (by decide) rfl (y_move rfl) ?_
  refine jl_y rfl (by decide) rfl (y_extract rfl rfl) ?_
  refine jl_y rfl (by decide) rfl (y_extract rfl rfl) ?_
  refine jl_y rfl (by decide) rfl (y_assign rfl) ?_
  refine jl_y rfl (by decide) rfl (y_assign rfl) ?_
  refine jl_nil ?_
  refine jq_then ?_
  refine jc_seq ?_
  refine jc_seq ?_
  -- region 4
  refine jc_region ?_
  refine jl_y rfl (by decide) rfl (y_move rfl) ?_
  refine jl_y rfl (by decide) rfl (y_eql_nil rfl rfl) ?_
  refine jl_as (u := .bool false) rfl ?_
  refine jl_y rfl (by decide) rfl (y_move rfl) ?_
  refine jl_y rfl (by decide) rfl (y_move rfl) ?_
  refine jl_y rfl (by decide) rfl (y_neq rfl rfl) ?_
  refine jl_prop (fun h41 => ?_) (fun h41 => ?_)
  · first
    | (exfalso; omega)
    | (
      refine jl_y rfl (by decide) rfl (y_pick_false rfl rfl) ?_
      refine jl_nil ?_
      refine jq_then ?_
      refine jc_true rfl ?_
      refine jc_seq ?_
      -- region 5
      refine jc_region ?_
      refine jl_y rfl (by decide) rfl (y_assign rfl) ?_
      refine jl_nil ?_
      refine jq_then ?_
      refine jc_ret ?_
      refine jq_then_ret ?_
      refine jq_ret1 rfl rfl ?_
      exact fun _ hw => ⟨rfl, (hbx.ch.then (hbc.ch.then hw.ch))⟩
      )
  · first
    | (exfalso; omega)
    | (
      refine jl_y rfl (by decide) rfl (y_pick_false rfl rfl) ?_
      refine jl_nil ?_
      refine jq_then ?_
      refine jc_false rfl ?_
      refine jc_skip ?_
      refine jq_then ?_
      refine jc_seq ?_
      -- region 6
      refine jc_region ?_
      refine jl_y rfl (by decide) rfl (y_indexAddr_arr rfl rfl (by omega) (by omega) (by simp only [Int.toNat_natCast, Int.reduceSub, Int.reduceAdd, Int.reduceToNat, Nat.reduceMul, Nat.reduceAdd, Nat.zero_add, Nat.mul_one, Nat.zero_mul, Nat.add_zero]; exact rfl)) ?_
      first | refine jl_y rfl (by decide) rfl (y_load rfl (by first | exact mem0 | exact mem1 | exact mem2 | exact mem3 | exact mem4 | exact mem5) rfl) ?_ | refine jl_y rfl (by decide) rfl (y_load_row rfl (by first | exact mem0 | exact mem1 | exact mem2 | exact mem3 | exact mem4 | exact mem5) rfl) ?_ | refine jl_y rfl (by decide) rfl (y_load_old rfl (by assumption) (by simp)) ?_
      first | refine jl_y rfl (by decide) rfl (y_conv_fits rfl (by simp only [fits]; omega)) ?_
      refine jl_y rfl (by decide) rfl (y_move rfl) ?_
      refine jl_y rfl (by decide) rfl (y_add_fits rfl rfl (by simp only [fits]; omega)) ?_
      refine jl_y rfl (by decide) rfl (y_rem rfl rfl (by omega) (by omega)) ?_
      refine jl_as (u := .int .i64 ((a : Nat) : Int)) (congrArg _ ha.symm) ?_
      refine jl_y rfl (by decide) rfl (y_assign rfl) ?_
      refine jl_nil ?_
      refine jq_then ?_
      refine jc_seq ?_
      -- region 7
      refine jc_region ?_
      refine jl_y rfl (by decide) rfl (y_move rfl) ?_
      refine jl_y rfl (by decide) rfl (y_move rfl) ?_
      refine jl_pcall rfl (by decide) rfl (goes_func rfl) (fun w1 hw1 => pcall hw1 (token_any _ _ _ w1 (hcc.keep hw1) _)) ?_
      refine jl_y rfl (by decide) rfl (y_move rfl) ?_
      refine jl_y rfl (by decide) rfl (y_extract rfl rfl) ?_
      refine jl_as (u := .string (tokS (cutS seed 100) m a)) (congrArg Value.string (tok_in (by omega)).1) ?_
      refine jl_y rfl (by decide) rfl (y_extract rfl rfl) ?_
      refine jl_as (u := .int .i64 0) (congrArg (Value.int .i64) (@tok_in (cutS seed 100) m _ (by omega)).2) ?_
      refine jl_y rfl (by decide) rfl (y_assign rfl) ?_
      refine jl_y rfl (by decide) rfl (y_assign rfl) ?_
      refine jl_nil ?_
      refine jq_then ?_
      refine jc_seq ?_
      -- region 8
      refine jc_region ?_
      refine jl_y rfl (by decide) rfl (y_move rfl) ?_
      refine jl_pcall rfl (by decide) rfl (goes_func rfl) (fun w1 hw1 => pcall hw1 (anchor_any _ _ _ w1 (hcc.keep hw1))) ?_
      refine jl_y rfl (by decide) rfl (y_move rfl) ?_
      refine jl_y rfl (by decide) rfl (y_move rfl) ?_
      refine jl_pcall rfl (by decide) rfl (goes_func rfl) (fun w1 hw1 => pcall hw1 (count_any _ _ _ w1 (by simp only [fits] at *; omega))) ?_
      refine jl_y rfl (by decide) rfl (y_move rfl) ?_
      refine jl_y rfl (by decide) rfl (y_extract rfl rfl) ?_
      refine jl_y rfl (by decide) rfl (y_extract rfl rfl) ?_
      refine jl_y rfl (by decide) rfl (y_assign rfl) ?_
      refine jl_y rfl (by decide) rfl (y_assign rfl) ?_
      refine jl_nil ?_
      refine jq_then ?_
      refine jc_seq ?_
      -- region 9
      refine jc_region ?_
      refine jl_y rfl (by decide) rfl (y_indexAddr_arr rfl rfl (by omega) (by omega) (by simp only [Int.toNat_natCast, Int.reduceSub, Int.reduceAdd, Int.reduceToNat, Nat.reduceMul, Nat.reduceAdd, Nat.zero_add, Nat.mul_one, Nat.zero_mul, Nat.add_zero]; exact rfl)) ?_
      first | refine jl_y rfl (by decide) rfl (y_load rfl (by first | exact mem0 | exact mem1 | exact mem2 | exact mem3 | exact mem4 | exact mem5) rfl) ?_ | refine jl_y rfl (by decide) rfl (y_load_row rfl (by first | exact mem0 | exact mem1 | exact mem2 | exact mem3 | exact mem4 | exact mem5) rfl) ?_ | refine jl_y rfl (by decide) rfl (y_load_old rfl (by assumption) (by simp)) ?_
      first | refine jl_y rfl (by decide) rfl (y_conv_fits rfl (by simp only [fits]; omega)) ?_
      refine jl_y rfl (by decide) rfl (y_move rfl) ?_
      refine jl_y rfl (by decide) rfl (y_add_fits rfl rfl (by simp only [fits]; omega)) ?_
      refine jl_y rfl (by decide) rfl (y_rem rfl rfl (by omega) (by omega)) ?_
      refine jl_as (u := .int .i64 ((p : Nat) : Int)) (congrArg _ hp.symm) ?_
      refine jl_y rfl (by decide) rfl (y_assign rfl) ?_
      refine jl_nil ?_
      refine jq_then ?_
      refine jc_seq ?_
      -- region 10
      refine jc_region ?_
      refine jl_y rfl (by decide) rfl (y_move rfl) ?_
      refine jl_y rfl (by decide) rfl (y_move rfl) ?_
      refine jl_y rfl (by decide) rfl (y_move rfl) ?_
      refine jl_y rfl (by decide) rfl (y_sub_fits rfl rfl (by simp only [fits]; omega)) ?_
      refine jl_as (u := .int .i64 ((a - p : Nat) : Int)) (congrArg (Value.int .i64) (by omega)) ?_
      refine jl_pcall rfl (by decide) rfl (goes_func rfl) (fun w1 hw1 => pcall hw1 (token_any _ _ _ w1 (hcc.keep hw1) _)) ?_
      refine jl_y rfl (by decide) rfl (y_move rfl) ?_
      refine jl_y rfl (by decide) rfl (y_extract rfl rfl) ?_
      refine jl_as (u := .string (tokS (cutS seed 100) m (a - p))) (congrArg Value.string (tok_in (by omega)).1) ?_
      refine jl_y rfl (by decide) rfl (y_extract rfl rfl) ?_
      refine jl_as (u := .int .i64 0) (congrArg (Value.int .i64) (@tok_in (cutS seed 100) m _ (by omega)).2) ?_
      refine jl_y rfl (by decide) rfl (y_assign rfl) ?_
      refine jl_y rfl (by decide) rfl (y_assign rfl) ?_
      refine jl_nil ?_
      refine jq_then ?_
      refine jc_seq ?_
      refine jc_seq ?_
      -- region 11
      refine jc_region ?_
      refine jl_y rfl (by decide) rfl (y_move rfl) ?_
      refine jl_y rfl (by decide) rfl (y_neq rfl rfl) ?_
      refine jl_prop (fun h78 => ?_) (fun h78 => ?_)
      · first
        | (exfalso; omega)
        | (
          refine jl_y rfl (by decide) rfl (y_move rfl) ?_
          refine jl_skip rfl (by decide) rfl ?_
          refine jl_skip rfl (by decide) rfl ?_
          refine jl_y rfl (by decide) rfl (y_pick_true rfl rfl) ?_
          refine jl_y rfl (by decide) rfl (y_move rfl) ?_
          refine jl_skip rfl (by decide) rfl ?_
          refine jl_skip rfl (by decide) rfl ?_
          refine jl_y rfl (by decide) rfl (y_pick_true rfl rfl) ?_
          refine jl_y rfl (by decide) rfl (y_move rfl) ?_
          refine jl_skip rfl (by decide) rfl ?_
          refine jl_skip rfl (by decide) rfl ?_
          refine jl_skip rfl (by decide) rfl ?_
          refine jl_y rfl (by decide) rfl (y_pick_true rfl rfl) ?_
          refine jl_y rfl (by decide) rfl (y_move rfl) ?_
          refine jl_skip rfl (by decide) rfl ?_
          refine jl_skip rfl (by decide) rfl ?_
          refine jl_skip rfl (by decide) rfl ?_
          refine jl_skip rfl (by decide) rfl ?_
          refine jl_skip rfl (by decide) rfl ?_
          refine jl_y rfl (by decide) rfl (y_pick_true rfl rfl) ?_
          refine jl_y rfl (by decide) rfl (y_move rfl) ?_
          refine jl_skip rfl (by decide) rfl ?_
          refine jl_skip rfl (by decide) rfl ?_
          refine jl_skip rfl (by decide) rfl ?_
          refine jl_skip rfl (by decide) rfl ?_
          refine jl_skip rfl (by decide) rfl ?_
          refine jl_skip rfl (by decide) rfl ?_
          refine jl_skip rfl (by decide) rfl ?_
          refine jl_skip rfl (by decide) rfl ?_
          refine jl_y rfl (by decide) rfl (y_pick_true rfl rfl) ?_
          refine jl_nil ?_
          refine jq_then ?_
          refine jc_true rfl ?_
          refine jc_seq ?_
          -- region 12
          refine jc_region ?_
          refine jl_y rfl (by decide) rfl (y_assign rfl) ?_
          refine jl_nil ?_
          refine jq_then ?_
          refine jc_ret ?_
          refine jq_then_ret ?_
          refine jq_ret1 rfl rfl ?_
          exact fun _ hw => ⟨rfl, (hbx.ch.then (hbc.ch.then hw.ch))⟩
          )
      · first
        | (exfalso; omega)
        | (
          refine jl_y rfl (by decide) rfl (y_move rfl) ?_
          refine jl_y rfl (by decide) rfl (y_move rfl) ?_
          refine jl_y rfl (by decide) rfl (y_neq rfl rfl) ?_
          refine jl_prop (fun h81 => ?_) (fun h81 => ?_)
          · first
            | (exfalso; omega)
            | (
              refine jl_y rfl (by decide) rfl (y_pick_false rfl rfl) ?_
              refine jl_y rfl (by decide) rfl (y_move rfl) ?_
              refine jl_skip rfl (by decide) rfl ?_
              refine jl_skip rfl (by decide) rfl ?_
              refine jl_y rfl (by decide) rfl (y_pick_true rfl rfl) ?_
              refine jl_y rfl (by decide) rfl (y_move rfl) ?_
              refine jl_skip rfl (by decide) rfl ?_
              refine jl_skip rfl (by decide) rfl ?_
              refine jl_skip rfl (by decide) rfl ?_
              refine jl_y rfl (by decide) rfl (y_pick_true rfl rfl) ?_
              refine jl_y rfl (by decide) rfl (y_move rfl) ?_
              refine jl_skip rfl (by decide) rfl ?_
              refine jl_skip rfl (by decide) rfl ?_
              refine jl_skip rfl (by decide) rfl ?_
              refine jl_skip rfl (by decide) rfl ?_
              refine jl_skip rfl (by decide) rfl ?_
              refine jl_y rfl (by decide) rfl (y_pick_true rfl rfl) ?_
              refine jl_y rfl (by decide) rfl (y_move rfl) ?_
              refine jl_skip rfl (by decide) rfl ?_
              refine jl_skip rfl (by decide) rfl ?_
              refine jl_skip rfl (by decide) rfl ?_
              refine jl_skip rfl (by decide) rfl ?_
              refine jl_skip rfl (by decide) rfl ?_
              refine jl_skip rfl (by decide) rfl ?_
              refine jl_skip rfl (by decide) rfl ?_
              refine jl_skip rfl (by decide) rfl ?_
              refine jl_y rfl (by decide) rfl (y_pick_true rfl rfl) ?_
              refine jl_nil ?_
              refine jq_then ?_
              refine jc_true rfl ?_
              refine jc_seq ?_
              -- region 12
              refine jc_region ?_
              refine jl_y rfl (by decide) rfl (y_assign rfl) ?_
              refine jl_nil ?_
              refine jq_then ?_
              refine jc_ret ?_
              refine jq_then_ret ?_
              refine jq_ret1 rfl rfl ?_
              exact fun _ hw => ⟨rfl, (hbx.ch.then (hbc.ch.then hw.ch))⟩
              )
          · first
            | (exfalso; omega)
            | (
              refine jl_y rfl (by decide) rfl (y_pick_false rfl rfl) ?_
              refine jl_y rfl (by decide) rfl (y_move rfl) ?_
              refine jl_y rfl (by decide) rfl (y_move rfl) ?_
              refine jl_y rfl (by decide) rfl (y_neq rfl rfl) ?_
              refine jl_prop (fun h85 => ?_) (fun h85 => ?_)
              · first
                | (exfalso; omega)
                | (
                  refine jl_y rfl (by decide) rfl (y_pick_false rfl rfl) ?_
                  refine jl_y rfl (by decide) rfl (y_move rfl) ?_
                  refine jl_skip rfl (by decide) rfl ?_
                  refine jl_skip rfl (by decide) rfl ?_
                  refine jl_skip rfl (by decide) rfl ?_
                  refine jl_y rfl (by decide) rfl (y_pick_true rfl rfl) ?_
                  refine jl_y rfl (by decide) rfl (y_move rfl) ?_
                  refine jl_skip rfl (by decide) rfl ?_
                  refine jl_skip rfl (by decide) rfl ?_
                  refine jl_skip rfl (by decide) rfl ?_
                  refine jl_skip rfl (by decide) rfl ?_
                  refine jl_skip rfl (by decide) rfl ?_
                  refine jl_y rfl (by decide) rfl (y_pick_true rfl rfl) ?_
                  refine jl_y rfl (by decide) rfl (y_move rfl) ?_
                  refine jl_skip rfl (by decide) rfl ?_
                  refine jl_skip rfl (by decide) rfl ?_
                  refine jl_skip rfl (by decide) rfl ?_
                  refine jl_skip rfl (by decide) rfl ?_
                  refine jl_skip rfl (by decide) rfl ?_
                  refine jl_skip rfl (by decide) rfl ?_
                  refine jl_skip rfl (by decide) rfl ?_
                  refine jl_skip rfl (by decide) rfl ?_
                  refine jl_y rfl (by decide) rfl (y_pick_true rfl rfl) ?_
                  refine jl_nil ?_
                  refine jq_then ?_
                  refine jc_true rfl ?_
                  refine jc_seq ?_
                  -- region 12
                  refine jc_region ?_
                  refine jl_y rfl (by decide) rfl (y_assign rfl) ?_
                  refine jl_nil ?_
                  refine jq_then ?_
                  refine jc_ret ?_
                  refine jq_then_ret ?_
                  refine jq_ret1 rfl rfl ?_
                  exact fun _ hw => ⟨rfl, (hbx.ch.then (hbc.ch.then hw.ch))⟩
                  )
              · first
                | (exfalso; omega)
                | (
                  refine jl_y rfl (by decide) rfl (y_pick_false rfl rfl) ?_
                  refine jl_y rfl (by decide) rfl (y_move rfl) ?_
                  refine jl_y rfl (by decide) rfl (y_move rfl) ?_
                  refine jl_y rfl (by decide) rfl (y_move rfl) ?_
                  refine jl_y rfl (by decide) rfl (y_gtr rfl rfl) ?_
                  refine jl_prop (fun h90 => ?_) (fun h90 => ?_)
                  · first
                    | (exfalso; omega)
                    | (
                      refine jl_y rfl (by decide) rfl (y_pick_false rfl rfl) ?_
                      refine jl_y rfl (by decide) rfl (y_move rfl) ?_
                      refine jl_skip rfl (by decide) rfl ?_
                      refine jl_skip rfl (by decide) rfl ?_
                      refine jl_skip rfl (by decide) rfl ?_
                      refine jl_skip rfl (by decide) rfl ?_
                      refine jl_skip rfl (by decide) rfl ?_
                      refine jl_y rfl (by decide) rfl (y_pick_true rfl rfl) ?_
                      refine jl_y rfl (by decide) rfl (y_move rfl) ?_
                      refine jl_skip rfl (by decide) rfl ?_
                      refine jl_skip rfl (by decide) rfl ?_
                      refine jl_skip rfl (by decide) rfl ?_
                      refine jl_skip rfl (by decide) rfl ?_
                      refine jl_skip rfl (by decide) rfl ?_
                      refine jl_skip rfl (by decide) rfl ?_
                      refine jl_skip rfl (by decide) rfl ?_
                      refine jl_skip rfl (by decide) rfl ?_
                      refine jl_y rfl (by decide) rfl (y_pick_true rfl rfl) ?_
                      refine jl_nil ?_
                      refine jq_then ?_
                      refine jc_true rfl ?_
                      refine jc_seq ?_
                      -- region 12
                      refine jc_region ?_
                      refine jl_y rfl (by decide) rfl (y_assign rfl) ?_
                      refine jl_nil ?_
                      refine jq_then ?_
                      refine jc_ret ?_
                      refine jq_then_ret ?_
                      refine jq_ret1 rfl rfl ?_
                      exact fun _ hw => ⟨rfl, (hbx.ch.then (hbc.ch.then hw.ch))⟩
                      )
                  · first
                    | (exfalso; omega)
                    | (
                      refine jl_y rfl (by decide) rfl (y_pick_false rfl rfl) ?_
                      refine jl_y rfl (by decide) rfl (y_move rfl) ?_
                      refine jl_y rfl (by decide) rfl (y_move rfl) ?_
                      refine jl_y rfl (by decide) rfl (y_move rfl) ?_
                      refine jl_pcall rfl (by decide) rfl (goes_func rfl) (fun w1 hw1 => pcall hw1 (far_any _ _ w1 (by simp only [fits] at *; omega))) ?_
                      refine jl_y rfl (by decide) rfl (y_move rfl) ?_
                      refine jl_y rfl (by decide) rfl (y_sneq rfl rfl) ?_
                      refine jl_as (u := .bool false) (congrArg (fun b => Value.bool (!b)) (decide_eq_true ((farS_nat p (tokS_size _ _ _) (by omega)).trans (tok_far (cutS seed 100) (by omega) (by omega))))) ?_
                      refine jl_y rfl (by decide) rfl (y_pick_false rfl rfl) ?_
                      refine jl_y rfl (by decide) rfl (y_move rfl) ?_
                      refine jl_y rfl (by decide) rfl (y_move rfl) ?_
                      refine jl_y rfl (by decide) rfl (y_move rfl) ?_
                      refine jl_y rfl (by decide) rfl (y_move rfl) ?_
                      refine jl_y rfl (by decide) rfl (y_sub_fits rfl rfl (by simp only [fits]; omega)) ?_
                      refine jl_as (u := .int .i64 ((a - p : Nat) : Int)) (congrArg (Value.int .i64) (by omega)) ?_
                      refine jl_pcall rfl (by decide) rfl (goes_func rfl) (fun w1 hw1 => pcall hw1 (far_any _ _ w1 (by simp only [fits] at *; omega))) ?_
                      refine jl_y rfl (by decide) rfl (y_move rfl) ?_
                      refine jl_pcall rfl (by decide) rfl (goes_func rfl) (fun w1 hw1 => pcall hw1 (anchor_any _ _ _ w1 (hcc.keep hw1))) ?_
                      refine jl_y rfl (by decide) rfl (y_sneq rfl rfl) ?_
                      refine jl_as (u := .bool false) (congrArg (fun b => Value.bool (!b)) (decide_eq_true ((farS_nat (a - p) (tokS_size _ _ _) (by omega)).trans ((tok_far (cutS seed 100) (by omega) (Nat.le_refl _)).trans (by rw [Nat.sub_self]))))) ?_
                      refine jl_y rfl (by decide) rfl (y_pick_false rfl rfl) ?_
                      refine jl_nil ?_
                      refine jq_then ?_
                      refine jc_false rfl ?_
                      refine jc_skip ?_
                      refine jq_then ?_
                      refine jc_seq ?_
                      refine jc_seq ?_
                      -- region 13
                      refine jc_region ?_
                      refine jl_y rfl (by decide) rfl (y_assign rfl) ?_
                      refine jl_nil ?_
                      refine jq_then ?_
                      refine jc_block ?_
                      -- a loop
                      refine jc_loop (fun (s : Nat) => [(5, .int .i64 ((m : Nat) : Int)), (6, .pointer (some ⟨bc, 0, none⟩)), (16, .int .i64 (s : Nat))]) (fun (s : Nat) => fun w' => (1 ≤ s ∧ s ≤ m + 1) ∧ Hp wc [] [] w') (fun (s : Nat) => m + 1 - s) 1 ?_ ?_ ?_
                      · exact ⟨rfl, rfl, rfl, trivial⟩
                      · exact fun _ h => ⟨by omega, h⟩
                      · intro s
                        refine jc_and (fun hs => ?_)
                        refine jc_seq ?_
                        refine jc_seq ?_
                        -- region 14
                        refine jc_region ?_
                        refine jl_y rfl (by decide) rfl (y_move rfl) ?_
                        refine jl_y rfl (by decide) rfl (y_move rfl) ?_
                        refine jl_y rfl (by decide) rfl (y_leq rfl rfl) ?_
                        refine jl_prop (fun h111 => ?_) (fun h111 => ?_)
                        · first
                          | (exfalso; omega)
                          | (
                            refine jl_nil ?_
                            refine jq_then ?_
                            refine jc_true rfl ?_
                            refine jc_skip ?_
                            refine jq_then ?_
                            refine jc_seq ?_
                            refine jc_block ?_
                            refine jc_seq ?_
                            -- region 16
                            refine jc_region ?_
                            refine jl_y rfl (by decide) rfl (y_move rfl) ?_
                            refine jl_y rfl (by decide) rfl (y_move rfl) ?_
                            refine jl_pcall rfl (by decide) rfl (goes_func rfl) (fun w1 hw1 => pcall hw1 (token_any _ _ _ w1 (hcc.keep hw1) _)) ?_
                            refine jl_y rfl (by decide) rfl (y_move rfl) ?_
                            refine jl_y rfl (by decide) rfl (y_extract rfl rfl) ?_
                            refine jl_as (u := .string (tokS (cutS seed 100) m s)) (congrArg Value.string (tok_in (by omega)).1) ?_
                            refine jl_y rfl (by decide) rfl (y_extract rfl rfl) ?_
                            refine jl_as (u := .int .i64 0) (congrArg (Value.int .i64) (@tok_in (cutS seed 100) m _ (by omega)).2) ?_
                            refine jl_y rfl (by decide) rfl (y_assign rfl) ?_
                            refine jl_y rfl (by decide) rfl (y_assign rfl) ?_
                            refine jl_nil ?_
                            refine jq_then ?_
                            refine jc_seq ?_
                            -- region 17
                            refine jc_region ?_
                            refine jl_y rfl (by decide) rfl (y_move rfl) ?_
                            refine jl_y rfl (by decide) rfl (y_move rfl) ?_
                            refine jl_y rfl (by decide) rfl (y_sub_fits rfl rfl (by simp only [fits]; omega)) ?_
                            refine jl_as (u := .int .i64 ((s - 1 : Nat) : Int)) (congrArg (Value.int .i64) (by omega)) ?_
                            refine jl_pcall rfl (by decide) rfl (goes_func rfl) (fun w1 hw1 => pcall hw1 (token_any _ _ _ w1 (hcc.keep hw1) _)) ?_
                            refine jl_y rfl (by decide) rfl (y_move rfl) ?_
                            refine jl_y rfl (by decide) rfl (y_extract rfl rfl) ?_
                            refine jl_as (u := .string (tokS (cutS seed 100) m (s - 1))) (congrArg Value.string (tok_in (by omega)).1) ?_
                            refine jl_y rfl (by decide) rfl (y_extract rfl rfl) ?_
                            refine jl_as (u := .int .i64 0) (congrArg (Value.int .i64) (@tok_in (cutS seed 100) m _ (by omega)).2) ?_
                            refine jl_y rfl (by decide) rfl (y_assign rfl) ?_
                            refine jl_y rfl (by decide) rfl (y_assign rfl) ?_
                            refine jl_nil ?_
                            refine jq_then ?_
                            refine jc_seq ?_
                            -- region 18
                            refine jc_region ?_
                            refine jl_y rfl (by decide) rfl (y_move rfl) ?_
                            refine jl_y rfl (by decide) rfl (y_neq rfl rfl) ?_
                            refine jl_prop (fun h128 => ?_) (fun h128 => ?_)
                            · first
                              | (exfalso; omega)
                              | (
                                refine jl_y rfl (by decide) rfl (y_move rfl) ?_
                                refine jl_skip rfl (by decide) rfl ?_
                                refine jl_skip rfl (by decide) rfl ?_
                                refine jl_y rfl (by decide) rfl (y_pick_true rfl rfl) ?_
                                refine jl_y rfl (by decide) rfl (y_move rfl) ?_
                                refine jl_skip rfl (by decide) rfl ?_
                                refine jl_skip rfl (by decide) rfl ?_
                                refine jl_skip rfl (by decide) rfl ?_
                                refine jl_skip rfl (by decide) rfl ?_
                                refine jl_y rfl (by decide) rfl (y_pick_true rfl rfl) ?_
                                refine jl_nil ?_
                                refine jq_then ?_
                                refine jc_true rfl ?_
                                refine jc_seq ?_
                                -- region 19
                                refine jc_region ?_
                                refine jl_y rfl (by decide) rfl (y_assign rfl) ?_
                                refine jl_nil ?_
                                refine jq_then ?_
                                refine jc_ret ?_
                                refine jq_block_ret ?_
                                refine jq_then_ret ?_
                                refine jq_then_ret ?_
                                refine jq_block_ret ?_
                                refine jq_then_ret ?_
                                refine jq_ret1 rfl rfl ?_
                                exact fun _ hw => ⟨rfl, (hbx.ch.then (hbc.ch.then hw.ch))⟩
                                )
                            · first
                              | (exfalso; omega)
                              | (
                                refine jl_y rfl (by decide) rfl (y_move rfl) ?_
                                refine jl_y rfl (by decide) rfl (y_move rfl) ?_
                                refine jl_y rfl (by decide) rfl (y_neq rfl rfl) ?_
                                refine jl_prop (fun h131 => ?_) (fun h131 => ?_)
                                · first
                                  | (exfalso; omega)
                                  | (
                                    refine jl_y rfl (by decide) rfl (y_pick_false rfl rfl) ?_
                                    refine jl_y rfl (by decide) rfl (y_move rfl) ?_
                                    refine jl_skip rfl (by decide) rfl ?_
                                    refine jl_skip rfl (by decide) rfl ?_
                                    refine jl_skip rfl (by decide) rfl ?_
                                    refine jl_skip rfl (by decide) rfl ?_
                                    refine jl_y rfl (by decide) rfl (y_pick_true rfl rfl) ?_
                                    refine jl_nil ?_
                                    refine jq_then ?_
                                    refine jc_true rfl ?_
                                    refine jc_seq ?_
                                    -- region 19
                                    refine jc_region ?_
                                    refine jl_y rfl (by decide) rfl (y_assign rfl) ?_
                                    refine jl_nil ?_
                                    refine jq_then ?_
                                    refine jc_ret ?_
                                    refine jq_block_ret ?_
                                    refine jq_then_ret ?_
                                    refine jq_then_ret ?_
                                    refine jq_block_ret ?_
                                    refine jq_then_ret ?_
                                    refine jq_ret1 rfl rfl ?_
                                    exact fun _ hw => ⟨rfl, (hbx.ch.then (hbc.ch.then hw.ch))⟩
                                    )
                                · first
                                  | (exfalso; omega)
                                  | (
                                    refine jl_y rfl (by decide) rfl (y_pick_false rfl rfl) ?_
                                    refine jl_y rfl (by decide) rfl (y_move rfl) ?_
                                    refine jl_y rfl (by decide) rfl (y_move rfl) ?_
                                    refine jl_pcall rfl (by decide) rfl (goes_func rfl) (fun w1 hw1 => pcall hw1 (next_any _ w1 (by first | omega | decide | (rw [farN_size (by omega)]; decide) | (rw [tokS_size]; decide) | (rw [tagS_size]; decide)))) ?_
                                    refine jl_y rfl (by decide) rfl (y_move rfl) ?_
                                    refine jl_y rfl (by decide) rfl (y_sneq rfl rfl) ?_
                                    refine jl_as (u := .bool false) (congrArg (fun b => Value.bool (!b)) (decide_eq_true (tok_prev (cutS seed 100) (by omega) (by omega)))) ?_
                                    refine jl_y rfl (by decide) rfl (y_pick_false rfl rfl) ?_
                                    refine jl_nil ?_
                                    refine jq_then ?_
                                    refine jc_false rfl ?_
                                    refine jc_skip ?_
                                    refine jq_block ?_
                                    refine jq_then ?_
                                    -- region 15
                                    refine jc_region ?_
                                    refine jl_y rfl (by decide) rfl (y_move rfl) ?_
                                    refine jl_y rfl (by decide) rfl (y_add_fits rfl rfl (by simp only [fits]; omega)) ?_
                                    refine jl_y rfl (by decide) rfl (y_assign rfl) ?_
                                    refine jl_nil ?_
                                    refine jq_round (i := s) (s + 1) ?_ ?_ ?_
                                    · omega
                                    · exact ⟨rfl, rfl, lk_int rfl (by omega), trivial⟩
                                    · exact fun _ h => ⟨by omega, h⟩
                                    )
                                )
                            )
                        · first
                          | (exfalso; omega)
                          | (
                            refine jl_nil ?_
                            refine jq_then ?_
                            refine jc_false rfl ?_
                            refine jc_exit ?_
                            refine jq_then_exit ?_
                            refine jq_then_exit ?_
                            refine jq_hit ?_
                            refine jq_then ?_
                            refine jc_seq ?_
                            -- region 20
                            refine jc_region ?_
                            refine jl_pcall rfl (by decide) rfl (goes_func rfl) (fun w1 hw1 => pcall hw1 (fixed4_any w1)) ?_
                            refine jl_y rfl (by decide) rfl (y_assign rfl) ?_
                            refine jl_nil ?_
                            refine jq_then ?_
                            refine jc_ret ?_
                            refine jq_ret1 rfl rfl ?_
                            exact fun _ hw => ⟨rfl, (hbx.ch.then (hbc.ch.then hw.ch))⟩
                            )
                      )
                  )
              )
          )
      )

theorem paywordFar_any (token : ByteArray) (n most : Int) (w : World) (h0 : fits .u8 n) (h1 : fits .u8 most) (hs : token.size ≤ 1048576) :
    Calls Try.prog 6 #[.string token, .int .u8 n, .int .u8 most] w fun e w' => e = .returned (.bool true) ∧ Ch [] w w' := by
  simp only [fits] at *
  obtain ⟨t, ht⟩ : ∃ t : ByteArray, ((token ++ sHex16).extract 0 16) = t := ⟨_, rfl⟩
  have hts : t.size = 16 := by rw [← ht, ByteArray.size_extract, ByteArray.size_append]; show min 16 (_ + 16) - 0 = 16; omega
  obtain ⟨k, hk⟩ : ∃ k : Nat, (k : Int) = n % 100 := ⟨(n % 100).toNat, by omega⟩
  obtain ⟨m, hm⟩ : ∃ m : Nat, (m : Int) = most % 100 := ⟨(most % 100).toNat, by omega⟩
  have hcf := @cnt_far t k m hts (by omega) (by omega) (by omega)
  refine calls_of (n := 71) (E := [(0, .string token), (1, .int .u8 n), (2, .int .u8 most)]) (W := Hp w [] []) Try.func6 rfl rfl (Nat.le_of_ble_eq_true rfl) rfl (Hp.nil _ _) ?_
  refine jc_seq ?_
  -- region 0
  refine jc_region ?_
  refine jl_y rfl (by decide) rfl (y_assign rfl) ?_
  refine jl_nil ?_
  refine jq_then ?_
  refine jc_seq ?_
  -- region 1
  refine jc_region ?_
  refine jl_y rfl (by decide) rfl (y_move rfl) ?_
  refine jl_y rfl (by decide) rfl (y_concat rfl rfl (by show token.size + 16 ≤ _; omega)) ?_
  refine jl_y rfl (by decide) rfl (y_substr_hi rfl rfl (by decide) (by rw [ByteArray.size_append]; show (16 : Int) ≤ ((token.size + 16 : Nat) : Int); omega)) ?_
  refine jl_as (u := .string t) (congrArg Value.string ht) ?_
  refine jl_y rfl (by decide) rfl (y_assign rfl) ?_
  refine jl_nil ?_
  refine jq_then ?_
  refine jc_seq ?_
  -- region 2
  refine jc_region ?_
  refine jl_y rfl (by decide) rfl (y_move rfl) ?_
  first | refine jl_y rfl (by decide) rfl (y_conv_fits rfl (by simp only [fits]; omega)) ?_
  refine jl_y rfl (by decide) rfl (y_rem rfl rfl (by omega) (by omega)) ?_
  refine jl_as (u := .int .i64 ((k : Nat) : Int)) (congrArg (Value.int .i64) (by omega)) ?_
  refine jl_y rfl (by decide) rfl (y_move rfl) ?_
  first | refine jl_y rfl (by decide) rfl (y_conv_fits rfl (by simp only [fits]; omega)) ?_
  refine jl_y rfl (by decide) rfl (y_rem rfl rfl (by omega) (by omega)) ?_
  refine jl_as (u := .int .i64 ((m : Nat) : Int)) (congrArg (Value.int .i64) (by omega)) ?_
  refine jl_y rfl (by decide) rfl (y_assign rfl) ?_
  refine jl_y rfl (by decide) rfl (y_assign rfl) ?_
  refine jl_nil ?_
  refine jq_then ?_
  refine jc_seq ?_
  -- region 3
  refine jc_region ?_
  refine jl_y rfl (by decide) rfl (y_move rfl) ?_
  refine jl_y rfl (by decide) rfl (y_move rfl) ?_
  refine jl_pcall rfl (by decide) rfl (goes_func rfl) (fun w1 hw1 => pcall hw1 (far_any _ _ w1 (by simp only [fits] at *; omega))) ?_
  refine jl_as (u := .string (farN t k)) (congrArg Value.string (farS_nat k hts (by omega))) ?_
  refine jl_y rfl (by decide) rfl (y_assign rfl) ?_
  refine jl_nil ?_
  refine jq_then ?_
  refine jc_seq ?_
  -- region 4
  refine jc_region ?_
  refine jl_y rfl (by decide) rfl (y_move rfl) ?_
  refine jl_y rfl (by decide) rfl (y_move rfl) ?_
  refine jl_y rfl (by decide) rfl (y_move rfl) ?_
  refine jl_pcall rfl (by decide) rfl (goes_func rfl) (fun w1 hw1 => pcall hw1 (count_any _ _ _ w1 (by simp only [fits] at *; omega))) ?_
  refine jl_y rfl (by decide) rfl (y_move rfl) ?_
  refine jl_y rfl (by decide) rfl (y_extract rfl rfl) ?_
  refine jl_y rfl (by decide) rfl (y_extract rfl rfl) ?_
  refine jl_y rfl (by decide) rfl (y_assign rfl) ?_
  refine jl_y rfl (by decide) rfl (y_assign rfl) ?_
  refine jl_nil ?_
  refine jq_then ?_
  refine jc_seq ?_
  refine jc_seq ?_
  -- region 5
  refine jc_region ?_
  refine jl_y rfl (by decide) rfl (y_move rfl) ?_
  refine jl_y rfl (by decide) rfl (y_neq rfl rfl) ?_
  refine jl_prop (fun h34 => ?_) (fun h34 => ?_)
  · first
    | (exfalso; omega)
    | (
      refine jl_nil ?_
      refine jq_then ?_
      refine jc_true rfl ?_
      refine jc_seq ?_
      -- region 6
      refine jc_region ?_
      refine jl_y rfl (by decide) rfl (y_move rfl) ?_
      refine jl_y rfl (by decide) rfl (y_eql rfl rfl) ?_
      refine jl_prop (fun h36 => ?_) (fun h36 => ?_)
      · first
        | (exfalso; omega)
        | (
          refine jl_y rfl (by decide) rfl (y_move rfl) ?_
          refine jl_y rfl (by decide) rfl (y_move rfl) ?_
          refine jl_y rfl (by decide) rfl (y_move rfl) ?_
          refine jl_y rfl (by decide) rfl (y_lss rfl rfl) ?_
          refine jl_prop (fun h40 => ?_) (fun h40 => ?_)
          · first
            | (exfalso; omega)
            | (
              refine jl_y rfl (by decide) rfl (y_pick_true rfl rfl) ?_
              refine jl_y rfl (by decide) rfl (y_move rfl) ?_
              refine jl_pcall rfl (by decide) rfl (goes_func rfl) (fun w1 hw1 => pcall hw1 (fixed4_any w1)) ?_
              refine jl_y rfl (by decide) rfl (y_pick_true rfl rfl) ?_
              refine jl_y rfl (by decide) rfl (y_assign rfl) ?_
              refine jl_nil ?_
              refine jq_then ?_
              refine jc_ret ?_
              refine jq_then_ret ?_
              refine jq_ret1 rfl rfl ?_
              exact fun _ hw => ⟨rfl, hw.ch⟩
              )
          · first
            | (exfalso; omega)
            | (
              refine jl_y rfl (by decide) rfl (y_pick_true rfl rfl) ?_
              refine jl_y rfl (by decide) rfl (y_move rfl) ?_
              refine jl_skip rfl (by decide) rfl ?_
              refine jl_y rfl (by decide) rfl (y_pick_false rfl rfl) ?_
              refine jl_y rfl (by decide) rfl (y_assign rfl) ?_
              refine jl_nil ?_
              refine jq_then ?_
              refine jc_ret ?_
              refine jq_then_ret ?_
              refine jq_ret1 rfl rfl ?_
              exact fun _ hw => ⟨rfl, hw.ch⟩
              )
          )
      · first
        | (exfalso; omega)
        | (
          refine jl_y rfl (by decide) rfl (y_move rfl) ?_
          refine jl_skip rfl (by decide) rfl ?_
          refine jl_skip rfl (by decide) rfl ?_
          refine jl_skip rfl (by decide) rfl ?_
          refine jl_y rfl (by decide) rfl (y_pick_false rfl rfl) ?_
          refine jl_y rfl (by decide) rfl (y_move rfl) ?_
          refine jl_skip rfl (by decide) rfl ?_
          refine jl_y rfl (by decide) rfl (y_pick_false rfl rfl) ?_
          refine jl_y rfl (by decide) rfl (y_assign rfl) ?_
          refine jl_nil ?_
          refine jq_then ?_
          refine jc_ret ?_
          refine jq_then_ret ?_
          refine jq_ret1 rfl rfl ?_
          exact fun _ hw => ⟨rfl, hw.ch⟩
          )
      )
  · first
    | (exfalso; omega)
    | (
      refine jl_nil ?_
      refine jq_then ?_
      refine jc_false rfl ?_
      refine jc_skip ?_
      refine jq_then ?_
      refine jc_seq ?_
      refine jc_seq ?_
      -- region 7
      obtain ⟨c, hc⟩ : ∃ c : Nat, cntV (farN t k) t m = (c : Int) := ⟨(cntV (farN t k) t m).toNat, by omega⟩
      have hcf2 : (c : Int) ≤ m ∧ (c : Int) ≤ k := by omega
      have hcf3 : farN t c = farN t k := hcf.elim (fun h => by omega) (fun h => by have := h.2.2.2.2.1; rw [hc] at this; simpa using this)
      have hcf4 : ∀ i : Nat, i < c → farN t i ≠ farN t k := fun i hi => hcf.elim (fun h => by omega) (fun h => h.2.2.2.2.2 i (by rw [hc]; omega))
      refine jc_region ?_
      refine jl_y rfl (by decide) rfl (y_move rfl) ?_
      refine jl_y rfl (by decide) rfl (y_move rfl) ?_
      refine jl_y rfl (by decide) rfl (y_gtr rfl rfl) ?_
      refine jl_prop (fun h47 => ?_) (fun h47 => ?_)
      · first
        | (exfalso; omega)
        | (
          refine jl_y rfl (by decide) rfl (y_move rfl) ?_
          refine jl_skip rfl (by decide) rfl ?_
          refine jl_skip rfl (by decide) rfl ?_
          refine jl_skip rfl (by decide) rfl ?_
          refine jl_y rfl (by decide) rfl (y_pick_true rfl rfl) ?_
          refine jl_y rfl (by decide) rfl (y_move rfl) ?_
          refine jl_skip rfl (by decide) rfl ?_
          refine jl_skip rfl (by decide) rfl ?_
          refine jl_skip rfl (by decide) rfl ?_
          refine jl_skip rfl (by decide) rfl ?_
          refine jl_skip rfl (by decide) rfl ?_
          refine jl_y rfl (by decide) rfl (y_pick_true rfl rfl) ?_
          refine jl_nil ?_
          refine jq_then ?_
          refine jc_true rfl ?_
          refine jc_seq ?_
          -- region 8
          refine jc_region ?_
          refine jl_y rfl (by decide) rfl (y_assign rfl) ?_
          refine jl_nil ?_
          refine jq_then ?_
          refine jc_ret ?_
          refine jq_then_ret ?_
          refine jq_ret1 rfl rfl ?_
          exact fun _ hw => ⟨rfl, hw.ch⟩
          )
      · first
        | (exfalso; omega)
        | (
          refine jl_y rfl (by decide) rfl (y_move rfl) ?_
          refine jl_y rfl (by decide) rfl (y_move rfl) ?_
          refine jl_y rfl (by decide) rfl (y_move rfl) ?_
          refine jl_y rfl (by decide) rfl (y_gtr rfl rfl) ?_
          refine jl_prop (fun h51 => ?_) (fun h51 => ?_)
          · first
            | (exfalso; omega)
            | (
              refine jl_y rfl (by decide) rfl (y_pick_false rfl rfl) ?_
              refine jl_y rfl (by decide) rfl (y_move rfl) ?_
              refine jl_skip rfl (by decide) rfl ?_
              refine jl_skip rfl (by decide) rfl ?_
              refine jl_skip rfl (by decide) rfl ?_
              refine jl_skip rfl (by decide) rfl ?_
              refine jl_skip rfl (by decide) rfl ?_
              refine jl_y rfl (by decide) rfl (y_pick_true rfl rfl) ?_
              refine jl_nil ?_
              refine jq_then ?_
              refine jc_true rfl ?_
              refine jc_seq ?_
              -- region 8
              refine jc_region ?_
              refine jl_y rfl (by decide) rfl (y_assign rfl) ?_
              refine jl_nil ?_
              refine jq_then ?_
              refine jc_ret ?_
              refine jq_then_ret ?_
              refine jq_ret1 rfl rfl ?_
              exact fun _ hw => ⟨rfl, hw.ch⟩
              )
          · first
            | (exfalso; omega)
            | (
              refine jl_y rfl (by decide) rfl (y_pick_false rfl rfl) ?_
              refine jl_y rfl (by decide) rfl (y_move rfl) ?_
              refine jl_y rfl (by decide) rfl (y_move rfl) ?_
              refine jl_y rfl (by decide) rfl (y_move rfl) ?_
              refine jl_pcall rfl (by decide) rfl (goes_func rfl) (fun w1 hw1 => pcall hw1 (far_any _ _ w1 (by simp only [fits] at *; omega))) ?_
              refine jl_as (u := .string (farN t c)) (congrArg Value.string (by rw [hc, farS_nat c hts (by omega)])) ?_
              refine jl_y rfl (by decide) rfl (y_move rfl) ?_
              refine jl_y rfl (by decide) rfl (y_sneq rfl rfl) ?_
              refine jl_as (u := .bool false) (congrArg (fun b => Value.bool (!b)) (decide_eq_true (hcf3))) ?_
              refine jl_y rfl (by decide) rfl (y_pick_false rfl rfl) ?_
              refine jl_nil ?_
              refine jq_then ?_
              refine jc_false rfl ?_
              refine jc_skip ?_
              refine jq_then ?_
              refine jc_seq ?_
              refine jc_seq ?_
              -- region 9
              refine jc_region ?_
              refine jl_y rfl (by decide) rfl (y_assign rfl) ?_
              refine jl_nil ?_
              refine jq_then ?_
              refine jc_block ?_
              -- a loop
              refine jc_loop (fun (i : Nat) => [(7, .string t), (10, .string (farN t k)), (11, .int .i64 (cntV (farN t k) t m)), (13, .int .i64 (i : Nat))]) (fun (i : Nat) => fun w' => i ≤ c ∧ Hp w [] [] w') (fun (i : Nat) => c - i) 0 ?_ ?_ ?_
              · exact ⟨rfl, rfl, rfl, rfl, trivial⟩
              · exact fun _ h => ⟨by omega, h⟩
              · intro i
                refine jc_and (fun hi => ?_)
                refine jc_seq ?_
                refine jc_seq ?_
                -- region 10
                refine jc_region ?_
                refine jl_y rfl (by decide) rfl (y_move rfl) ?_
                refine jl_y rfl (by decide) rfl (y_move rfl) ?_
                refine jl_y rfl (by decide) rfl (y_lss rfl rfl) ?_
                refine jl_prop (fun h62 => ?_) (fun h62 => ?_)
                · first
                  | (exfalso; omega)
                  | (
                    refine jl_nil ?_
                    refine jq_then ?_
                    refine jc_true rfl ?_
                    refine jc_skip ?_
                    refine jq_then ?_
                    refine jc_seq ?_
                    refine jc_block ?_
                    refine jc_seq ?_
                    -- region 12
                    refine jc_region ?_
                    refine jl_y rfl (by decide) rfl (y_move rfl) ?_
                    refine jl_y rfl (by decide) rfl (y_move rfl) ?_
                    refine jl_pcall rfl (by decide) rfl (goes_func rfl) (fun w1 hw1 => pcall hw1 (far_any _ _ w1 (by simp only [fits] at *; omega))) ?_
                    refine jl_as (u := .string (farN t i)) (congrArg Value.string (farS_nat i hts (by omega))) ?_
                    refine jl_y rfl (by decide) rfl (y_move rfl) ?_
                    refine jl_y rfl (by decide) rfl (y_seql rfl rfl) ?_
                    refine jl_prop (fun h69 => ?_) (fun h69 => ?_)
                    · exact absurd h69 (hcf4 i (by omega))
                    · skip
                      refine jl_nil ?_
                      refine jq_then ?_
                      refine jc_false rfl ?_
                      refine jc_skip ?_
                      refine jq_block ?_
                      refine jq_then ?_
                      -- region 11
                      refine jc_region ?_
                      refine jl_y rfl (by decide) rfl (y_move rfl) ?_
                      refine jl_y rfl (by decide) rfl (y_add_fits rfl rfl (by simp only [fits]; omega)) ?_
                      refine jl_y rfl (by decide) rfl (y_assign rfl) ?_
                      refine jl_nil ?_
                      refine jq_round (i := i) (i + 1) ?_ ?_ ?_
                      · omega
                      · exact ⟨rfl, rfl, rfl, lk_int rfl (by omega), trivial⟩
                      · exact fun _ h => ⟨by omega, h⟩
                    )
                · first
                  | (exfalso; omega)
                  | (
                    refine jl_nil ?_
                    refine jq_then ?_
                    refine jc_false rfl ?_
                    refine jc_exit ?_
                    refine jq_then_exit ?_
                    refine jq_then_exit ?_
                    refine jq_hit ?_
                    refine jq_then ?_
                    refine jc_seq ?_
                    -- region 14
                    refine jc_region ?_
                    refine jl_pcall rfl (by decide) rfl (goes_func rfl) (fun w1 hw1 => pcall hw1 (fixed4_any w1)) ?_
                    refine jl_y rfl (by decide) rfl (y_assign rfl) ?_
                    refine jl_nil ?_
                    refine jq_then ?_
                    refine jc_ret ?_
                    refine jq_ret1 rfl rfl ?_
                    exact fun _ hw => ⟨rfl, hw.ch⟩
                    )
              )
          )
      )

theorem paywordValues_any (seed : ByteArray) (x0 x1 x2 unit : Int) (w : World) (h0 : fits .u8 x0) (h1 : fits .u8 x1) (h2 : fits .u8 x2) (hu : fits .u64 unit) :
    Calls Try.prog 7 #[.string seed, .agg #[.int .u8 x0, .int .u8 x1, .int .u8 x2], .int .u64 unit] w fun e w' => e = .returned (.bool true) ∧ Ch [] w w' := by
  simp only [fits] at *
  have hcs := cutS_size seed 50
  obtain ⟨n, hn⟩ : ∃ n : Nat, (n : Int) = 1 + x0 % 60 := ⟨(1 + x0 % 60).toNat, by omega⟩
  obtain ⟨m, hm⟩ : ∃ m : Nat, (m : Int) = 1 + x1 % 60 := ⟨(1 + x1 % 60).toNat, by omega⟩
  have e1 := Int.emod_nonneg x2 (show (n : Int) + 1 ≠ 0 by omega)
  have e2 := Int.emod_lt_of_pos x2 (show 0 < (n : Int) + 1 by omega)
  obtain ⟨i, hi⟩ : ∃ i : Nat, (i : Int) = x2 % ((n : Int) + 1) := ⟨(x2 % ((n : Int) + 1)).toNat, by omega⟩
  have hvp := @val_parts n m unit (by omega) (by omega) (by omega)
  have f1 := @valV_fits n unit (by omega)
  have f2 := @valV_fits m unit (by omega)
  refine calls_of (n := 160) (E := [(0, .string seed), (1, .agg #[.int .u8 x0, .int .u8 x1, .int .u8 x2]), (2, .int .u64 unit)]) (W := Hp w [] []) Try.func7 rfl rfl (Nat.le_of_ble_eq_true rfl) rfl (Hp.nil _ _) ?_
  refine jc_seq ?_
  -- region 0
  refine jc_region ?_
  refine jl_m rfl (by decide) rfl (m_box rfl rfl) (fun b4 => ?_)
  refine jl_y rfl (by decide) rfl (y_assign rfl) ?_
  refine jl_nil ?_
  refine jq_then ?_
  refine jc_seq ?_
  -- region 1
  refine jc_region ?_
  refine jl_y rfl (by decide) rfl (y_move rfl) ?_
  refine jl_y rfl (by decide) rfl (y_move rfl) ?_
  refine jl_y rfl (by decide) rfl (y_len_str rfl) ?_
  refine jl_y rfl (by decide) rfl (y_min rfl rfl) ?_
  refine jl_y rfl (by decide) rfl (y_substr_hi rfl rfl (by omega) (by omega)) ?_
  refine jl_as (congrArg Value.string (cut_eq _ 50)) ?_
  refine jl_y rfl (by decide) rfl (y_assign rfl) ?_
  refine jl_nil ?_
  refine jq_then ?_
  refine jc_seq ?_
  -- region 2
  refine jc_draw (by kernel_rfl) (fun _ h => h.drew) ?_
  refine ju_y rfl (by decide) rfl (y_indexAddr_arr rfl rfl (by omega) (by omega) (by simp only [Int.toNat_natCast, Int.reduceSub, Int.reduceAdd, Int.reduceToNat, Nat.reduceMul, Nat.reduceAdd, Nat.zero_add, Nat.mul_one, Nat.zero_mul, Nat.add_zero]; exact rfl)) ?_
  first | refine ju_y rfl (by decide) rfl (y_load rfl (by first | exact mem0 | exact mem1 | exact mem2 | exact mem3 | exact mem4 | exact mem5) rfl) ?_ | refine ju_y rfl (by decide) rfl (y_load_row rfl (by first | exact mem0 | exact mem1 | exact mem2 | exact mem3 | exact mem4 | exact mem5) rfl) ?_ | refine ju_y rfl (by decide) rfl (y_load_old rfl (by assumption) (by simp)) ?_
  first | refine ju_y rfl (by decide) rfl (y_conv_fits rfl (by simp only [fits]; omega)) ?_
  refine ju_y rfl (by decide) rfl (y_rem rfl rfl (by omega) (by omega)) ?_
  refine ju_y rfl (by decide) rfl (y_add_fits rfl rfl (by simp only [fits]; omega)) ?_
  refine ju_as (u := .int .i64 ((n : Nat) : Int)) (congrArg (Value.int .i64) (by omega)) ?_
  refine ju_y rfl (by decide) rfl (y_indexAddr_arr rfl rfl (by omega) (by omega) (by simp only [Int.toNat_natCast, Int.reduceSub, Int.reduceAdd, Int.reduceToNat, Nat.reduceMul, Nat.reduceAdd, Nat.zero_add, Nat.mul_one, Nat.zero_mul, Nat.add_zero]; exact rfl)) ?_
  first | refine ju_y rfl (by decide) rfl (y_load rfl (by first | exact mem0 | exact mem1 | exact mem2 | exact mem3 | exact mem4 | exact mem5) rfl) ?_ | refine ju_y rfl (by decide) rfl (y_load_row rfl (by first | exact mem0 | exact mem1 | exact mem2 | exact mem3 | exact mem4 | exact mem5) rfl) ?_ | refine ju_y rfl (by decide) rfl (y_load_old rfl (by assumption) (by simp)) ?_
  first | refine ju_y rfl (by decide) rfl (y_conv_fits rfl (by simp only [fits]; omega)) ?_
  refine ju_y rfl (by decide) rfl (y_rem rfl rfl (by omega) (by omega)) ?_
  refine ju_y rfl (by decide) rfl (y_add_fits rfl rfl (by simp only [fits]; omega)) ?_
  refine ju_as (u := .int .i64 ((m : Nat) : Int)) (congrArg (Value.int .i64) (by omega)) ?_
  refine ju_y rfl (by decide) rfl (y_assign rfl) ?_
  refine ju_y rfl (by decide) rfl (y_assign rfl) ?_
  refine ju_nil ?_
  refine jq_then ?_
  refine jc_seq ?_
  -- region 3
  refine jc_rebase (fun wx hbx => ?_)
  have hx0 := CellAt.of_cells (hbx.get (A := .cells b4 [.int .u8 x0, .int .u8 x1, .int .u8 x2]) mem0) (o := 0) rfl
  have hx1 := CellAt.of_cells (hbx.get (A := .cells b4 [.int .u8 x0, .int .u8 x1, .int .u8 x2]) mem0) (o := 1) rfl
  have hx2 := CellAt.of_cells (hbx.get (A := .cells b4 [.int .u8 x0, .int .u8 x1, .int .u8 x2]) mem0) (o := 2) rfl
  refine jc_region ?_
  refine jl_y rfl (by decide) rfl (y_move rfl) ?_
  refine jl_y rfl (by decide) rfl (y_move rfl) ?_
  refine jl_kcall rfl (by decide) rfl (goes_func rfl) (fun w1 hw1 => new_ok ((cutS seed 50)) (n) w1 (by omega) (by omega) (by omega)) (fun bc wc hbc hcc => ?_)
  replace hx0 := hx0.keep hbc
  replace hx1 := hx1.keep hbc
  replace hx2 := hx2.keep hbc
  refine jl_y rfl (by decide) rfl (y_move rfl) ?_
  refine jl_y rfl (by decide) rfl (y_extract rfl rfl) ?_
  refine jl_y rfl (by decide) rfl (y_extract rfl rfl) ?_
  refine jl_y rfl (by decide) rfl (y_assign rfl) ?_
  refine jl_y rfl (by decide) rfl (y_assign rfl) ?_
  refine jl_nil ?_
  refine jq_then ?_
  refine jc_seq ?_
  -- region 4
  refine jc_region ?_
  refine jl_y rfl (by decide) rfl (y_move rfl) ?_
  refine jl_y rfl (by decide) rfl (y_move rfl) ?_
  refine jl_y rfl (by decide) rfl (y_move rfl) ?_
  refine jl_y rfl (by decide) rfl (y_add_fits rfl rfl (by simp only [fits]; omega)) ?_
  refine jl_as (u := .int .i64 ((n + m : Nat) : Int)) (congrArg (Value.int .i64) (by omega)) ?_
  refine jl_kcall rfl (by decide) rfl (goes_func rfl) (fun w1 hw1 => new_ok ((cutS seed 50)) (n + m) w1 (by omega) (by omega) (by omega)) (fun bd wd hbd hcd => ?_)
  replace hx0 := hx0.keep hbd
  replace hx1 := hx1.keep hbd
  replace hx2 := hx2.keep hbd
  replace hcc := hcc.keep hbd
  refine jl_y rfl (by decide) rfl (y_move rfl) ?_
  refine jl_y rfl (by decide) rfl (y_extract rfl rfl) ?_
  refine jl_y rfl (by decide) rfl (y_extract rfl rfl) ?_
  refine jl_y rfl (by decide) rfl (y_assign rfl) ?_
  refine jl_y rfl (by decide) rfl (y_assign rfl) ?_
  refine jl_nil ?_
  refine jq_then ?_
  refine jc_seq ?_
  refine jc_seq ?_
  -- region 5
  refine jc_region ?_
  refine jl_y rfl (by decide) rfl (y_move rfl) ?_
  refine jl_y rfl (by decide) rfl (y_eql_nil rfl rfl) ?_
  refine jl_as (u := .bool false) rfl ?_
  refine jl_y rfl (by decide) rfl (y_move rfl) ?_
  refine jl_y rfl (by decide) rfl (y_move rfl) ?_
  refine jl_y rfl (by decide) rfl (y_eql_nil rfl rfl) ?_
  refine jl_as (u := .bool false) rfl ?_
  refine jl_y rfl (by decide) rfl (y_pick_false rfl rfl) ?_
  refine jl_y rfl (by decide) rfl (y_move rfl) ?_
  refine jl_y rfl (by decide) rfl (y_move rfl) ?_
  refine jl_y rfl (by decide) rfl (y_neq rfl rfl) ?_
  refine jl_prop (fun h64 => ?_) (fun h64 => ?_)
  · first
    | (exfalso; omega)
    | (
      refine jl_y rfl (by decide) rfl (y_pick_false rfl rfl) ?_
      refine jl_y rfl (by decide) rfl (y_move rfl) ?_
      refine jl_skip rfl (by decide) rfl ?_
      refine jl_skip rfl (by decide) rfl ?_
      refine jl_y rfl (by decide) rfl (y_pick_true rfl rfl) ?_
      refine jl_nil ?_
      refine jq_then ?_
      refine jc_true rfl ?_
      refine jc_seq ?_
      -- region 6
      refine jc_region ?_
      refine jl_y rfl (by decide) rfl (y_assign rfl) ?_
      refine jl_nil ?_
      refine jq_then ?_
      refine jc_ret ?_
      refine jq_then_ret ?_
      refine jq_ret1 rfl rfl ?_
      exact fun _ hw => ⟨rfl, (hbx.ch.then (hbc.ch.then (hbd.ch.then hw.ch)))⟩
      )
  · first
    | (exfalso; omega)
    | (
      refine jl_y rfl (by decide) rfl (y_pick_false rfl rfl) ?_
      refine jl_y rfl (by decide) rfl (y_move rfl) ?_
      refine jl_y rfl (by decide) rfl (y_move rfl) ?_
      refine jl_y rfl (by decide) rfl (y_neq rfl rfl) ?_
      refine jl_prop (fun h68 => ?_) (fun h68 => ?_)
      · first
        | (exfalso; omega)
        | (
          refine jl_y rfl (by decide) rfl (y_pick_false rfl rfl) ?_
          refine jl_nil ?_
          refine jq_then ?_
          refine jc_true rfl ?_
          refine jc_seq ?_
          -- region 6
          refine jc_region ?_
          refine jl_y rfl (by decide) rfl (y_assign rfl) ?_
          refine jl_nil ?_
          refine jq_then ?_
          refine jc_ret ?_
          refine jq_then_ret ?_
          refine jq_ret1 rfl rfl ?_
          exact fun _ hw => ⟨rfl, (hbx.ch.then (hbc.ch.then (hbd.ch.then hw.ch)))⟩
          )
      · first
        | (exfalso; omega)
        | (
          refine jl_y rfl (by decide) rfl (y_pick_false rfl rfl) ?_
          refine jl_nil ?_
          refine jq_then ?_
          refine jc_false rfl ?_
          refine jc_skip ?_
          refine jq_then ?_
          refine jc_seq ?_
          -- region 7
          refine jc_region ?_
          refine jl_y rfl (by decide) rfl (y_indexAddr_arr rfl rfl (by omega) (by omega) (by simp only [Int.toNat_natCast, Int.reduceSub, Int.reduceAdd, Int.reduceToNat, Nat.reduceMul, Nat.reduceAdd, Nat.zero_add, Nat.mul_one, Nat.zero_mul, Nat.add_zero]; exact rfl)) ?_
          first | refine jl_y rfl (by decide) rfl (y_load rfl (by first | exact mem0 | exact mem1 | exact mem2 | exact mem3 | exact mem4 | exact mem5) rfl) ?_ | refine jl_y rfl (by decide) rfl (y_load_row rfl (by first | exact mem0 | exact mem1 | exact mem2 | exact mem3 | exact mem4 | exact mem5) rfl) ?_ | refine jl_y rfl (by decide) rfl (y_load_old rfl (by assumption) (by simp)) ?_
          first | refine jl_y rfl (by decide) rfl (y_conv_fits rfl (by simp only [fits]; omega)) ?_
          refine jl_y rfl (by decide) rfl (y_move rfl) ?_
          refine jl_y rfl (by decide) rfl (y_add_fits rfl rfl (by simp only [fits]; omega)) ?_
          refine jl_y rfl (by decide) rfl (y_rem rfl rfl (by omega) (by omega)) ?_
          refine jl_as (u := .int .i64 ((i : Nat) : Int)) (congrArg _ hi.symm) ?_
          refine jl_y rfl (by decide) rfl (y_assign rfl) ?_
          refine jl_nil ?_
          refine jq_then ?_
          refine jc_seq ?_
          -- region 8
          refine jc_region ?_
          refine jl_y rfl (by decide) rfl (y_move rfl) ?_
          refine jl_y rfl (by decide) rfl (y_move rfl) ?_
          refine jl_pcall rfl (by decide) rfl (goes_func rfl) (fun w1 hw1 => pcall hw1 (token_any _ _ _ w1 (hcc.keep hw1) _)) ?_
          refine jl_y rfl (by decide) rfl (y_move rfl) ?_
          refine jl_y rfl (by decide) rfl (y_extract rfl rfl) ?_
          refine jl_as (u := .string (tokS (cutS seed 50) n i)) (congrArg Value.string (tok_in (by omega)).1) ?_
          refine jl_y rfl (by decide) rfl (y_extract rfl rfl) ?_
          refine jl_as (u := .int .i64 0) (congrArg (Value.int .i64) (@tok_in (cutS seed 50) n _ (by omega)).2) ?_
          refine jl_y rfl (by decide) rfl (y_assign rfl) ?_
          refine jl_y rfl (by decide) rfl (y_assign rfl) ?_
          refine jl_nil ?_
          refine jq_then ?_
          refine jc_seq ?_
          -- region 9
          refine jc_region ?_
          refine jl_y rfl (by decide) rfl (y_move rfl) ?_
          refine jl_y rfl (by decide) rfl (y_move rfl) ?_
          refine jl_y rfl (by decide) rfl (y_move rfl) ?_
          refine jl_y rfl (by decide) rfl (y_add_fits rfl rfl (by simp only [fits]; omega)) ?_
          refine jl_as (u := .int .i64 ((i + m : Nat) : Int)) (congrArg (Value.int .i64) (by omega)) ?_
          refine jl_pcall rfl (by decide) rfl (goes_func rfl) (fun w1 hw1 => pcall hw1 (token_any _ _ _ w1 (hcd.keep hw1) _)) ?_
          refine jl_y rfl (by decide) rfl (y_move rfl) ?_
          refine jl_y rfl (by decide) rfl (y_extract rfl rfl) ?_
          refine jl_as (u := .string (tokS (cutS seed 50) (n + m) (i + m))) (congrArg Value.string (tok_in (by omega)).1) ?_
          refine jl_y rfl (by decide) rfl (y_extract rfl rfl) ?_
          refine jl_as (u := .int .i64 0) (congrArg (Value.int .i64) (@tok_in (cutS seed 50) (n + m) _ (by omega)).2) ?_
          refine jl_y rfl (by decide) rfl (y_assign rfl) ?_
          refine jl_y rfl (by decide) rfl (y_assign rfl) ?_
          refine jl_nil ?_
          refine jq_then ?_
          refine jc_seq ?_
          -- region 10
          refine jc_region ?_
          refine jl_y rfl (by decide) rfl (y_move rfl) ?_
          refine jl_y rfl (by decide) rfl (y_move rfl) ?_
          refine jl_pcall rfl (by decide) rfl (goes_func rfl) (fun w1 hw1 => pcall hw1 (value_any _ _ w1 (by simp only [fits] at *; omega) (by simp only [fits] at *; omega))) ?_
          refine jl_y rfl (by decide) rfl (y_move rfl) ?_
          refine jl_y rfl (by decide) rfl (y_extract rfl rfl) ?_
          refine jl_y rfl (by decide) rfl (y_extract rfl rfl) ?_
          refine jl_y rfl (by decide) rfl (y_assign rfl) ?_
          refine jl_y rfl (by decide) rfl (y_assign rfl) ?_
          refine jl_nil ?_
          refine jq_then ?_
          refine jc_seq ?_
          -- region 11
          refine jc_region ?_
          refine jl_y rfl (by decide) rfl (y_move rfl) ?_
          refine jl_y rfl (by decide) rfl (y_move rfl) ?_
          refine jl_pcall rfl (by decide) rfl (goes_func rfl) (fun w1 hw1 => pcall hw1 (value_any _ _ w1 (by simp only [fits] at *; omega) (by simp only [fits] at *; omega))) ?_
          refine jl_y rfl (by decide) rfl (y_move rfl) ?_
          refine jl_y rfl (by decide) rfl (y_extract rfl rfl) ?_
          refine jl_y rfl (by decide) rfl (y_extract rfl rfl) ?_
          refine jl_y rfl (by decide) rfl (y_assign rfl) ?_
          refine jl_y rfl (by decide) rfl (y_assign rfl) ?_
          refine jl_nil ?_
          refine jq_then ?_
          refine jc_seq ?_
          -- region 12
          refine jc_region ?_
          refine jl_y rfl (by decide) rfl (y_move rfl) ?_
          refine jl_y rfl (by decide) rfl (y_move rfl) ?_
          refine jl_y rfl (by decide) rfl (y_add_fits rfl rfl (by simp only [fits]; omega)) ?_
          refine jl_y rfl (by decide) rfl (y_move rfl) ?_
          refine jl_pcall rfl (by decide) rfl (goes_func rfl) (fun w1 hw1 => pcall hw1 (value_any _ _ w1 (by simp only [fits] at *; omega) (by simp only [fits] at *; omega))) ?_
          refine jl_y rfl (by decide) rfl (y_move rfl) ?_
          refine jl_y rfl (by decide) rfl (y_extract rfl rfl) ?_
          refine jl_y rfl (by decide) rfl (y_extract rfl rfl) ?_
          refine jl_y rfl (by decide) rfl (y_assign rfl) ?_
          refine jl_y rfl (by decide) rfl (y_assign rfl) ?_
          refine jl_nil ?_
          refine jq_then ?_
          refine jc_seq ?_
          -- region 13
          refine jc_region ?_
          refine jl_y rfl (by decide) rfl (y_move rfl) ?_
          refine jl_y rfl (by decide) rfl (y_move rfl) ?_
          refine jl_pcall rfl (by decide) rfl (goes_func rfl) (fun w1 hw1 => pcall hw1 (add_any _ _ w1 (by simp only [fits] at *; omega) (by simp only [fits] at *; omega))) ?_
          refine jl_y rfl (by decide) rfl (y_move rfl) ?_
          refine jl_y rfl (by decide) rfl (y_extract rfl rfl) ?_
          refine jl_y rfl (by decide) rfl (y_extract rfl rfl) ?_
          refine jl_y rfl (by decide) rfl (y_assign rfl) ?_
          refine jl_y rfl (by decide) rfl (y_assign rfl) ?_
          refine jl_nil ?_
          refine jq_then ?_
          refine jc_seq ?_
          -- region 14
          have g1 := hvp.1
          have g2 := hvp.2
          refine jc_region ?_
          refine jl_y rfl (by decide) rfl (y_move rfl) ?_
          refine jl_y rfl (by decide) rfl (y_eql rfl rfl) ?_
          refine jl_prop (fun h117 => ?_) (fun h117 => ?_)
          · first
            | (exfalso; omega)
            | (
              refine jl_y rfl (by decide) rfl (y_move rfl) ?_
              refine jl_y rfl (by decide) rfl (y_move rfl) ?_
              refine jl_y rfl (by decide) rfl (y_eql rfl rfl) ?_
              refine jl_prop (fun h120 => ?_) (fun h120 => ?_)
              · first
                | (exfalso; omega)
                | (
                  refine jl_y rfl (by decide) rfl (y_pick_true rfl rfl) ?_
                  refine jl_y rfl (by decide) rfl (y_move rfl) ?_
                  refine jl_y rfl (by decide) rfl (y_move rfl) ?_
                  refine jl_y rfl (by decide) rfl (y_move rfl) ?_
                  refine jl_y rfl (by decide) rfl (y_seql rfl rfl) ?_
                  refine jl_as (u := .bool true) (congrArg (fun b => Value.bool b) (decide_eq_true ((tok_more (cutS seed 50) n m i (by omega)).symm))) ?_
                  refine jl_y rfl (by decide) rfl (y_pick_true rfl rfl) ?_
                  refine jl_y rfl (by decide) rfl (y_move rfl) ?_
                  refine jl_y rfl (by decide) rfl (y_move rfl) ?_
                  refine jl_y rfl (by decide) rfl (y_neq rfl rfl) ?_
                  refine jl_prop (fun h129 => ?_) (fun h129 => ?_)
                  · first
                    | (exfalso; omega)
                    | (
                      refine jl_y rfl (by decide) rfl (y_move rfl) ?_
                      refine jl_skip rfl (by decide) rfl ?_
                      refine jl_skip rfl (by decide) rfl ?_
                      refine jl_y rfl (by decide) rfl (y_pick_true rfl rfl) ?_
                      refine jl_y rfl (by decide) rfl (y_move rfl) ?_
                      refine jl_skip rfl (by decide) rfl ?_
                      refine jl_skip rfl (by decide) rfl ?_
                      refine jl_skip rfl (by decide) rfl ?_
                      refine jl_skip rfl (by decide) rfl ?_
                      refine jl_skip rfl (by decide) rfl ?_
                      refine jl_skip rfl (by decide) rfl ?_
                      refine jl_skip rfl (by decide) rfl ?_
                      refine jl_skip rfl (by decide) rfl ?_
                      refine jl_y rfl (by decide) rfl (y_pick_true rfl rfl) ?_
                      refine jl_y rfl (by decide) rfl (y_pick_true rfl rfl) ?_
                      refine jl_y rfl (by decide) rfl (y_move rfl) ?_
                      refine jl_y rfl (by decide) rfl (y_move rfl) ?_
                      refine jl_y rfl (by decide) rfl (y_neq rfl rfl) ?_
                      refine jl_prop (fun h147 => ?_) (fun h147 => ?_)
                      · first
                        | (exfalso; omega)
                        | (
                          refine jl_y rfl (by decide) rfl (y_move rfl) ?_
                          refine jl_skip rfl (by decide) rfl ?_
                          refine jl_skip rfl (by decide) rfl ?_
                          refine jl_skip rfl (by decide) rfl ?_
                          refine jl_skip rfl (by decide) rfl ?_
                          refine jl_skip rfl (by decide) rfl ?_
                          refine jl_skip rfl (by decide) rfl ?_
                          refine jl_y rfl (by decide) rfl (y_pick_true rfl rfl) ?_
                          refine jl_y rfl (by decide) rfl (y_pick_true rfl rfl) ?_
                          refine jl_y rfl (by decide) rfl (y_move rfl) ?_
                          refine jl_pcall rfl (by decide) rfl (goes_func rfl) (fun w1 hw1 => pcall hw1 (fixed4_any w1)) ?_
                          refine jl_y rfl (by decide) rfl (y_pick_true rfl rfl) ?_
                          refine jl_y rfl (by decide) rfl (y_assign rfl) ?_
                          refine jl_nil ?_
                          refine jq_then ?_
                          refine jc_ret ?_
                          refine jq_ret1 rfl rfl ?_
                          exact fun _ hw => ⟨rfl, (hbx.ch.then (hbc.ch.then (hbd.ch.then hw.ch)))⟩
                          )
                      · first
                        | (exfalso; omega)
                        | (
                          refine jl_y rfl (by decide) rfl (y_move rfl) ?_
                          refine jl_y rfl (by decide) rfl (y_move rfl) ?_
                          refine jl_y rfl (by decide) rfl (y_eql rfl rfl) ?_
                          refine jl_prop (fun h150 => ?_) (fun h150 => ?_)
                          · first
                            | (exfalso; omega)
                            | (
                              refine jl_y rfl (by decide) rfl (y_move rfl) ?_
                              refine jl_y rfl (by decide) rfl (y_move rfl) ?_
                              refine jl_y rfl (by decide) rfl (y_eql rfl rfl) ?_
                              refine jl_prop (fun h153 => ?_) (fun h153 => ?_)
                              · first
                                | (exfalso; omega)
                                | (
                                  refine jl_y rfl (by decide) rfl (y_pick_true rfl rfl) ?_
                                  refine jl_y rfl (by decide) rfl (y_pick_false rfl rfl) ?_
                                  refine jl_y rfl (by decide) rfl (y_pick_true rfl rfl) ?_
                                  refine jl_y rfl (by decide) rfl (y_move rfl) ?_
                                  refine jl_pcall rfl (by decide) rfl (goes_func rfl) (fun w1 hw1 => pcall hw1 (fixed4_any w1)) ?_
                                  refine jl_y rfl (by decide) rfl (y_pick_true rfl rfl) ?_
                                  refine jl_y rfl (by decide) rfl (y_assign rfl) ?_
                                  refine jl_nil ?_
                                  refine jq_then ?_
                                  refine jc_ret ?_
                                  refine jq_ret1 rfl rfl ?_
                                  exact fun _ hw => ⟨rfl, (hbx.ch.then (hbc.ch.then (hbd.ch.then hw.ch)))⟩
                                  )
                              · first
                                | (exfalso; omega)
                                | (
                                  refine jl_y rfl (by decide) rfl (y_pick_true rfl rfl) ?_
                                  refine jl_y rfl (by decide) rfl (y_pick_false rfl rfl) ?_
                                  refine jl_y rfl (by decide) rfl (y_pick_true rfl rfl) ?_
                                  refine jl_y rfl (by decide) rfl (y_move rfl) ?_
                                  refine jl_skip rfl (by decide) rfl ?_
                                  refine jl_y rfl (by decide) rfl (y_pick_false rfl rfl) ?_
                                  refine jl_y rfl (by decide) rfl (y_assign rfl) ?_
                                  refine jl_nil ?_
                                  refine jq_then ?_
                                  refine jc_ret ?_
                                  refine jq_ret1 rfl rfl ?_
                                  exact fun _ hw => ⟨rfl, (hbx.ch.then (hbc.ch.then (hbd.ch.then hw.ch)))⟩
                                  )
                              )
                          · first
                            | (exfalso; omega)
                            | (
                              refine jl_y rfl (by decide) rfl (y_move rfl) ?_
                              refine jl_skip rfl (by decide) rfl ?_
                              refine jl_skip rfl (by decide) rfl ?_
                              refine jl_y rfl (by decide) rfl (y_pick_false rfl rfl) ?_
                              refine jl_y rfl (by decide) rfl (y_pick_false rfl rfl) ?_
                              refine jl_y rfl (by decide) rfl (y_pick_true rfl rfl) ?_
                              refine jl_y rfl (by decide) rfl (y_move rfl) ?_
                              refine jl_skip rfl (by decide) rfl ?_
                              refine jl_y rfl (by decide) rfl (y_pick_false rfl rfl) ?_
                              refine jl_y rfl (by decide) rfl (y_assign rfl) ?_
                              refine jl_nil ?_
                              refine jq_then ?_
                              refine jc_ret ?_
                              refine jq_ret1 rfl rfl ?_
                              exact fun _ hw => ⟨rfl, (hbx.ch.then (hbc.ch.then (hbd.ch.then hw.ch)))⟩
                              )
                          )
                      )
                  · first
                    | (exfalso; omega)
                    | (
                      refine jl_y rfl (by decide) rfl (y_move rfl) ?_
                      refine jl_y rfl (by decide) rfl (y_move rfl) ?_
                      refine jl_y rfl (by decide) rfl (y_neq rfl rfl) ?_
                      refine jl_prop (fun h132 => ?_) (fun h132 => ?_)
                      · first
                        | (exfalso; omega)
                        | (
                          refine jl_y rfl (by decide) rfl (y_pick_false rfl rfl) ?_
                          refine jl_y rfl (by decide) rfl (y_move rfl) ?_
                          refine jl_skip rfl (by decide) rfl ?_
                          refine jl_skip rfl (by decide) rfl ?_
                          refine jl_skip rfl (by decide) rfl ?_
                          refine jl_skip rfl (by decide) rfl ?_
                          refine jl_skip rfl (by decide) rfl ?_
                          refine jl_skip rfl (by decide) rfl ?_
                          refine jl_skip rfl (by decide) rfl ?_
                          refine jl_skip rfl (by decide) rfl ?_
                          refine jl_y rfl (by decide) rfl (y_pick_true rfl rfl) ?_
                          refine jl_y rfl (by decide) rfl (y_pick_true rfl rfl) ?_
                          refine jl_y rfl (by decide) rfl (y_move rfl) ?_
                          refine jl_y rfl (by decide) rfl (y_move rfl) ?_
                          refine jl_y rfl (by decide) rfl (y_neq rfl rfl) ?_
                          refine jl_prop (fun h147 => ?_) (fun h147 => ?_)
                          · first
                            | (exfalso; omega)
                            | (
                              refine jl_y rfl (by decide) rfl (y_move rfl) ?_
                              refine jl_skip rfl (by decide) rfl ?_
                              refine jl_skip rfl (by decide) rfl ?_
                              refine jl_skip rfl (by decide) rfl ?_
                              refine jl_skip rfl (by decide) rfl ?_
                              refine jl_skip rfl (by decide) rfl ?_
                              refine jl_skip rfl (by decide) rfl ?_
                              refine jl_y rfl (by decide) rfl (y_pick_true rfl rfl) ?_
                              refine jl_y rfl (by decide) rfl (y_pick_true rfl rfl) ?_
                              refine jl_y rfl (by decide) rfl (y_move rfl) ?_
                              refine jl_pcall rfl (by decide) rfl (goes_func rfl) (fun w1 hw1 => pcall hw1 (fixed4_any w1)) ?_
                              refine jl_y rfl (by decide) rfl (y_pick_true rfl rfl) ?_
                              refine jl_y rfl (by decide) rfl (y_assign rfl) ?_
                              refine jl_nil ?_
                              refine jq_then ?_
                              refine jc_ret ?_
                              refine jq_ret1 rfl rfl ?_
                              exact fun _ hw => ⟨rfl, (hbx.ch.then (hbc.ch.then (hbd.ch.then hw.ch)))⟩
                              )
                          · first
                            | (exfalso; omega)
                            | (
                              refine jl_y rfl (by decide) rfl (y_move rfl) ?_
                              refine jl_y rfl (by decide) rfl (y_move rfl) ?_
                              refine jl_y rfl (by decide) rfl (y_eql rfl rfl) ?_
                              refine jl_prop (fun h150 => ?_) (fun h150 => ?_)
                              · first
                                | (exfalso; omega)
                                | (
                                  refine jl_y rfl (by decide) rfl (y_move rfl) ?_
                                  refine jl_y rfl (by decide) rfl (y_move rfl) ?_
                                  refine jl_y rfl (by decide) rfl (y_eql rfl rfl) ?_
                                  refine jl_prop (fun h153 => ?_) (fun h153 => ?_)
                                  · first
                                    | (exfalso; omega)
                                    | (
                                      refine jl_y rfl (by decide) rfl (y_pick_true rfl rfl) ?_
                                      refine jl_y rfl (by decide) rfl (y_pick_false rfl rfl) ?_
                                      refine jl_y rfl (by decide) rfl (y_pick_true rfl rfl) ?_
                                      refine jl_y rfl (by decide) rfl (y_move rfl) ?_
                                      refine jl_pcall rfl (by decide) rfl (goes_func rfl) (fun w1 hw1 => pcall hw1 (fixed4_any w1)) ?_
                                      refine jl_y rfl (by decide) rfl (y_pick_true rfl rfl) ?_
                                      refine jl_y rfl (by decide) rfl (y_assign rfl) ?_
                                      refine jl_nil ?_
                                      refine jq_then ?_
                                      refine jc_ret ?_
                                      refine jq_ret1 rfl rfl ?_
                                      exact fun _ hw => ⟨rfl, (hbx.ch.then (hbc.ch.then (hbd.ch.then hw.ch)))⟩
                                      )
                                  · first
                                    | (exfalso; omega)
                                    | (
                                      refine jl_y rfl (by decide) rfl (y_pick_true rfl rfl) ?_
                                      refine jl_y rfl (by decide) rfl (y_pick_false rfl rfl) ?_
                                      refine jl_y rfl (by decide) rfl (y_pick_true rfl rfl) ?_
                                      refine jl_y rfl (by decide) rfl (y_move rfl) ?_
                                      refine jl_skip rfl (by decide) rfl ?_
                                      refine jl_y rfl (by decide) rfl (y_pick_false rfl rfl) ?_
                                      refine jl_y rfl (by decide) rfl (y_assign rfl) ?_
                                      refine jl_nil ?_
                                      refine jq_then ?_
                                      refine jc_ret ?_
                                      refine jq_ret1 rfl rfl ?_
                                      exact fun _ hw => ⟨rfl, (hbx.ch.then (hbc.ch.then (hbd.ch.then hw.ch)))⟩
                                      )
                                  )
                              · first
                                | (exfalso; omega)
                                | (
                                  refine jl_y rfl (by decide) rfl (y_move rfl) ?_
                                  refine jl_skip rfl (by decide) rfl ?_
                                  refine jl_skip rfl (by decide) rfl ?_
                                  refine jl_y rfl (by decide) rfl (y_pick_false rfl rfl) ?_
                                  refine jl_y rfl (by decide) rfl (y_pick_false rfl rfl) ?_
                                  refine jl_y rfl (by decide) rfl (y_pick_true rfl rfl) ?_
                                  refine jl_y rfl (by decide) rfl (y_move rfl) ?_
                                  refine jl_skip rfl (by decide) rfl ?_
                                  refine jl_y rfl (by decide) rfl (y_pick_false rfl rfl) ?_
                                  refine jl_y rfl (by decide) rfl (y_assign rfl) ?_
                                  refine jl_nil ?_
                                  refine jq_then ?_
                                  refine jc_ret ?_
                                  refine jq_ret1 rfl rfl ?_
                                  exact fun _ hw => ⟨rfl, (hbx.ch.then (hbc.ch.then (hbd.ch.then hw.ch)))⟩
                                  )
                              )
                          )
                      · first
                        | (exfalso; omega)
                        | (
                          refine jl_y rfl (by decide) rfl (y_pick_false rfl rfl) ?_
                          refine jl_y rfl (by decide) rfl (y_move rfl) ?_
                          refine jl_y rfl (by decide) rfl (y_move rfl) ?_
                          refine jl_y rfl (by decide) rfl (y_move rfl) ?_
                          refine jl_y rfl (by decide) rfl (y_eql rfl rfl) ?_
                          refine jl_prop (fun h137 => ?_) (fun h137 => ?_)
                          · first
                            | (exfalso; omega)
                            | (
                              refine jl_y rfl (by decide) rfl (y_move rfl) ?_
                              refine jl_y rfl (by decide) rfl (y_move rfl) ?_
                              refine jl_y rfl (by decide) rfl (y_move rfl) ?_
                              refine jl_y rfl (by decide) rfl (y_eql rfl rfl) ?_
                              refine jl_prop (fun h141 => ?_) (fun h141 => ?_)
                              · first
                                | (exfalso; omega)
                                | (
                                  refine jl_y rfl (by decide) rfl (y_pick_true rfl rfl) ?_
                                  refine jl_y rfl (by decide) rfl (y_pick_false rfl rfl) ?_
                                  refine jl_y rfl (by decide) rfl (y_pick_true rfl rfl) ?_
                                  refine jl_y rfl (by decide) rfl (y_move rfl) ?_
                                  refine jl_y rfl (by decide) rfl (y_move rfl) ?_
                                  refine jl_y rfl (by decide) rfl (y_neq rfl rfl) ?_
                                  refine jl_prop (fun h147 => ?_) (fun h147 => ?_)
                                  · first
                                    | (exfalso; omega)
                                    | (
                                      refine jl_y rfl (by decide) rfl (y_move rfl) ?_
                                      refine jl_skip rfl (by decide) rfl ?_
                                      refine jl_skip rfl (by decide) rfl ?_
                                      refine jl_skip rfl (by decide) rfl ?_
                                      refine jl_skip rfl (by decide) rfl ?_
                                      refine jl_skip rfl (by decide) rfl ?_
                                      refine jl_skip rfl (by decide) rfl ?_
                                      refine jl_y rfl (by decide) rfl (y_pick_true rfl rfl) ?_
                                      refine jl_y rfl (by decide) rfl (y_pick_true rfl rfl) ?_
                                      refine jl_y rfl (by decide) rfl (y_move rfl) ?_
                                      refine jl_pcall rfl (by decide) rfl (goes_func rfl) (fun w1 hw1 => pcall hw1 (fixed4_any w1)) ?_
                                      refine jl_y rfl (by decide) rfl (y_pick_true rfl rfl) ?_
                                      refine jl_y rfl (by decide) rfl (y_assign rfl) ?_
                                      refine jl_nil ?_
                                      refine jq_then ?_
                                      refine jc_ret ?_
                                      refine jq_ret1 rfl rfl ?_
                                      exact fun _ hw => ⟨rfl, (hbx.ch.then (hbc.ch.then (hbd.ch.then hw.ch)))⟩
                                      )
                                  · first
                                    | (exfalso; omega)
                                    | (
                                      refine jl_y rfl (by decide) rfl (y_move rfl) ?_
                                      refine jl_y rfl (by decide) rfl (y_move rfl) ?_
                                      refine jl_y rfl (by decide) rfl (y_eql rfl rfl) ?_
                                      refine jl_prop (fun h150 => ?_) (fun h150 => ?_)
                                      · first
                                        | (exfalso; omega)
                                        | (
                                          refine jl_y rfl (by decide) rfl (y_move rfl) ?_
                                          refine jl_y rfl (by decide) rfl (y_move rfl) ?_
                                          refine jl_y rfl (by decide) rfl (y_eql rfl rfl) ?_
                                          refine jl_prop (fun h153 => ?_) (fun h153 => ?_)
                                          · first
                                            | (exfalso; omega)
                                            | (
                                              refine jl_y rfl (by decide) rfl (y_pick_true rfl rfl) ?_
                                              refine jl_y rfl (by decide) rfl (y_pick_false rfl rfl) ?_
                                              refine jl_y rfl (by decide) rfl (y_pick_true rfl rfl) ?_
                                              refine jl_y rfl (by decide) rfl (y_move rfl) ?_
                                              refine jl_pcall rfl (by decide) rfl (goes_func rfl) (fun w1 hw1 => pcall hw1 (fixed4_any w1)) ?_
                                              refine jl_y rfl (by decide) rfl (y_pick_true rfl rfl) ?_
                                              refine jl_y rfl (by decide) rfl (y_assign rfl) ?_
                                              refine jl_nil ?_
                                              refine jq_then ?_
                                              refine jc_ret ?_
                                              refine jq_ret1 rfl rfl ?_
                                              exact fun _ hw => ⟨rfl, (hbx.ch.then (hbc.ch.then (hbd.ch.then hw.ch)))⟩
                                              )
                                          · first
                                            | (exfalso; omega)
                                            | (
                                              refine jl_y rfl (by decide) rfl (y_pick_true rfl rfl) ?_
                                              refine jl_y rfl (by decide) rfl (y_pick_false rfl rfl) ?_
                                              refine jl_y rfl (by decide) rfl (y_pick_true rfl rfl) ?_
                                              refine jl_y rfl (by decide) rfl (y_move rfl) ?_
                                              refine jl_skip rfl (by decide) rfl ?_
                                              refine jl_y rfl (by decide) rfl (y_pick_false rfl rfl) ?_
                                              refine jl_y rfl (by decide) rfl (y_assign rfl) ?_
                                              refine jl_nil ?_
                                              refine jq_then ?_
                                              refine jc_ret ?_
                                              refine jq_ret1 rfl rfl ?_
                                              exact fun _ hw => ⟨rfl, (hbx.ch.then (hbc.ch.then (hbd.ch.then hw.ch)))⟩
                                              )
                                          )
                                      · first
                                        | (exfalso; omega)
                                        | (
                                          refine jl_y rfl (by decide) rfl (y_move rfl) ?_
                                          refine jl_skip rfl (by decide) rfl ?_
                                          refine jl_skip rfl (by decide) rfl ?_
                                          refine jl_y rfl (by decide) rfl (y_pick_false rfl rfl) ?_
                                          refine jl_y rfl (by decide) rfl (y_pick_false rfl rfl) ?_
                                          refine jl_y rfl (by decide) rfl (y_pick_true rfl rfl) ?_
                                          refine jl_y rfl (by decide) rfl (y_move rfl) ?_
                                          refine jl_skip rfl (by decide) rfl ?_
                                          refine jl_y rfl (by decide) rfl (y_pick_false rfl rfl) ?_
                                          refine jl_y rfl (by decide) rfl (y_assign rfl) ?_
                                          refine jl_nil ?_
                                          refine jq_then ?_
                                          refine jc_ret ?_
                                          refine jq_ret1 rfl rfl ?_
                                          exact fun _ hw => ⟨rfl, (hbx.ch.then (hbc.ch.then (hbd.ch.then hw.ch)))⟩
                                          )
                                      )
                                  )
                              · first
                                | (exfalso; omega)
                                | (
                                  refine jl_y rfl (by decide) rfl (y_pick_true rfl rfl) ?_
                                  refine jl_y rfl (by decide) rfl (y_pick_false rfl rfl) ?_
                                  refine jl_y rfl (by decide) rfl (y_pick_true rfl rfl) ?_
                                  refine jl_y rfl (by decide) rfl (y_move rfl) ?_
                                  refine jl_skip rfl (by decide) rfl ?_
                                  refine jl_skip rfl (by decide) rfl ?_
                                  refine jl_skip rfl (by decide) rfl ?_
                                  refine jl_skip rfl (by decide) rfl ?_
                                  refine jl_skip rfl (by decide) rfl ?_
                                  refine jl_skip rfl (by decide) rfl ?_
                                  refine jl_skip rfl (by decide) rfl ?_
                                  refine jl_skip rfl (by decide) rfl ?_
                                  refine jl_skip rfl (by decide) rfl ?_
                                  refine jl_skip rfl (by decide) rfl ?_
                                  refine jl_y rfl (by decide) rfl (y_pick_false rfl rfl) ?_
                                  refine jl_y rfl (by decide) rfl (y_move rfl) ?_
                                  refine jl_skip rfl (by decide) rfl ?_
                                  refine jl_y rfl (by decide) rfl (y_pick_false rfl rfl) ?_
                                  refine jl_y rfl (by decide) rfl (y_assign rfl) ?_
                                  refine jl_nil ?_
                                  refine jq_then ?_
                                  refine jc_ret ?_
                                  refine jq_ret1 rfl rfl ?_
                                  exact fun _ hw => ⟨rfl, (hbx.ch.then (hbc.ch.then (hbd.ch.then hw.ch)))⟩
                                  )
                              )
                          · first
                            | (exfalso; omega)
                            | (
                              refine jl_y rfl (by decide) rfl (y_move rfl) ?_
                              refine jl_skip rfl (by decide) rfl ?_
                              refine jl_skip rfl (by decide) rfl ?_
                              refine jl_skip rfl (by decide) rfl ?_
                              refine jl_y rfl (by decide) rfl (y_pick_false rfl rfl) ?_
                              refine jl_y rfl (by decide) rfl (y_pick_false rfl rfl) ?_
                              refine jl_y rfl (by decide) rfl (y_pick_true rfl rfl) ?_
                              refine jl_y rfl (by decide) rfl (y_move rfl) ?_
                              refine jl_skip rfl (by decide) rfl ?_
                              refine jl_skip rfl (by decide) rfl ?_
                              refine jl_skip rfl (by decide) rfl ?_
                              refine jl_skip rfl (by decide) rfl ?_
                              refine jl_skip rfl (by decide) rfl ?_
                              refine jl_skip rfl (by decide) rfl ?_
                              refine jl_skip rfl (by decide) rfl ?_
                              refine jl_skip rfl (by decide) rfl ?_
                              refine jl_skip rfl (by decide) rfl ?_
                              refine jl_skip rfl (by decide) rfl ?_
                              refine jl_y rfl (by decide) rfl (y_pick_false rfl rfl) ?_
                              refine jl_y rfl (by decide) rfl (y_move rfl) ?_
                              refine jl_skip rfl (by decide) rfl ?_
                              refine jl_y rfl (by decide) rfl (y_pick_false rfl rfl) ?_
                              refine jl_y rfl (by decide) rfl (y_assign rfl) ?_
                              refine jl_nil ?_
                              refine jq_then ?_
                              refine jc_ret ?_
                              refine jq_ret1 rfl rfl ?_
                              exact fun _ hw => ⟨rfl, (hbx.ch.then (hbc.ch.then (hbd.ch.then hw.ch)))⟩
                              )
                          )
                      )
                  )
              · first
                | (exfalso; omega)
                | (
                  refine jl_y rfl (by decide) rfl (y_pick_true rfl rfl) ?_
                  refine jl_y rfl (by decide) rfl (y_move rfl) ?_
                  refine jl_skip rfl (by decide) rfl ?_
                  refine jl_skip rfl (by decide) rfl ?_
                  refine jl_skip rfl (by decide) rfl ?_
                  refine jl_y rfl (by decide) rfl (y_pick_false rfl rfl) ?_
                  refine jl_y rfl (by decide) rfl (y_move rfl) ?_
                  refine jl_skip rfl (by decide) rfl ?_
                  refine jl_skip rfl (by decide) rfl ?_
                  refine jl_skip rfl (by decide) rfl ?_
                  refine jl_skip rfl (by decide) rfl ?_
                  refine jl_skip rfl (by decide) rfl ?_
                  refine jl_skip rfl (by decide) rfl ?_
                  refine jl_skip rfl (by decide) rfl ?_
                  refine jl_skip rfl (by decide) rfl ?_
                  refine jl_skip rfl (by decide) rfl ?_
                  refine jl_skip rfl (by decide) rfl ?_
                  refine jl_skip rfl (by decide) rfl ?_
                  refine jl_skip rfl (by decide) rfl ?_
                  refine jl_skip rfl (by decide) rfl ?_
                  refine jl_skip rfl (by decide) rfl ?_
                  refine jl_skip rfl (by decide) rfl ?_
                  refine jl_skip rfl (by decide) rfl ?_
                  refine jl_y rfl (by decide) rfl (y_pick_false rfl rfl) ?_
                  refine jl_y rfl (by decide) rfl (y_move rfl) ?_
                  refine jl_skip rfl (by decide) rfl ?_
                  refine jl_skip rfl (by decide) rfl ?_
                  refine jl_skip rfl (by decide) rfl ?_
                  refine jl_skip rfl (by decide) rfl ?_
                  refine jl_skip rfl (by decide) rfl ?_
                  refine jl_skip rfl (by decide) rfl ?_
                  refine jl_skip rfl (by decide) rfl ?_
                  refine jl_skip rfl (by decide) rfl ?_
                  refine jl_skip rfl (by decide) rfl ?_
                  refine jl_skip rfl (by decide) rfl ?_
                  refine jl_y rfl (by decide) rfl (y_pick_false rfl rfl) ?_
                  refine jl_y rfl (by decide) rfl (y_move rfl) ?_
                  refine jl_skip rfl (by decide) rfl ?_
                  refine jl_y rfl (by decide) rfl (y_pick_false rfl rfl) ?_
                  refine jl_y rfl (by decide) rfl (y_assign rfl) ?_
                  refine jl_nil ?_
                  refine jq_then ?_
                  refine jc_ret ?_
                  refine jq_ret1 rfl rfl ?_
                  exact fun _ hw => ⟨rfl, (hbx.ch.then (hbc.ch.then (hbd.ch.then hw.ch)))⟩
                  )
              )
          · first
            | (exfalso; omega)
            | (
              refine jl_y rfl (by decide) rfl (y_move rfl) ?_
              refine jl_skip rfl (by decide) rfl ?_
              refine jl_skip rfl (by decide) rfl ?_
              refine jl_y rfl (by decide) rfl (y_pick_false rfl rfl) ?_
              refine jl_y rfl (by decide) rfl (y_move rfl) ?_
              refine jl_skip rfl (by decide) rfl ?_
              refine jl_skip rfl (by decide) rfl ?_
              refine jl_skip rfl (by decide) rfl ?_
              refine jl_y rfl (by decide) rfl (y_pick_false rfl rfl) ?_
              refine jl_y rfl (by decide) rfl (y_move rfl) ?_
              refine jl_skip rfl (by decide) rfl ?_
              refine jl_skip rfl (by decide) rfl ?_
              refine jl_skip rfl (by decide) rfl ?_
              refine jl_skip rfl (by decide) rfl ?_
              refine jl_skip rfl (by decide) rfl ?_
              refine jl_skip rfl (by decide) rfl ?_
              refine jl_skip rfl (by decide) rfl ?_
              refine jl_skip rfl (by decide) rfl ?_
              refine jl_skip rfl (by decide) rfl ?_
              refine jl_skip rfl (by decide) rfl ?_
              refine jl_skip rfl (by decide) rfl ?_
              refine jl_skip rfl (by decide) rfl ?_
              refine jl_skip rfl (by decide) rfl ?_
              refine jl_skip rfl (by decide) rfl ?_
              refine jl_skip rfl (by decide) rfl ?_
              refine jl_skip rfl (by decide) rfl ?_
              refine jl_y rfl (by decide) rfl (y_pick_false rfl rfl) ?_
              refine jl_y rfl (by decide) rfl (y_move rfl) ?_
              refine jl_skip rfl (by decide) rfl ?_
              refine jl_skip rfl (by decide) rfl ?_
              refine jl_skip rfl (by decide) rfl ?_
              refine jl_skip rfl (by decide) rfl ?_
              refine jl_skip rfl (by decide) rfl ?_
              refine jl_skip rfl (by decide) rfl ?_
              refine jl_skip rfl (by decide) rfl ?_
              refine jl_skip rfl (by decide) rfl ?_
              refine jl_skip rfl (by decide) rfl ?_
              refine jl_skip rfl (by decide) rfl ?_
              refine jl_y rfl (by decide) rfl (y_pick_false rfl rfl) ?_
              refine jl_y rfl (by decide) rfl (y_move rfl) ?_
              refine jl_skip rfl (by decide) rfl ?_
              refine jl_y rfl (by decide) rfl (y_pick_false rfl rfl) ?_
              refine jl_y rfl (by decide) rfl (y_assign rfl) ?_
              refine jl_nil ?_
              refine jq_then ?_
              refine jc_ret ?_
              refine jq_ret1 rfl rfl ?_
              exact fun _ hw => ⟨rfl, (hbx.ch.then (hbc.ch.then (hbd.ch.then hw.ch)))⟩
              )
          )
      )

end Go.Proofs.Ytfpihahfdmcneaa