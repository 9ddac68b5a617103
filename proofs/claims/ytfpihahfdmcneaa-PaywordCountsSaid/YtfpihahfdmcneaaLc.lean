/- The walks of two more laws of layer 4. Written by program (walk.py) out of a table of contracts and invariants. -/
import Derived.Test.YtfpihahfdmcneaaLw
namespace Go.Proofs.Ytfpihahfdmcneaa
open Go.RowKit
set_option maxRecDepth 100000
set_option linter.unusedVariables false
set_option linter.unusedSimpArgs false

theorem paywordChains_ok (seed : ByteArray) (n i : Int) (w : World) (hn : fits .i64 n) (hi : fits .i64 i) (hv : 1 ≤ n ∧ n ≤ 4096) :
    Calls Try.prog 3 #[.string seed, .int .i64 n, .int .i64 i] w fun e w' => e = .returned (.bool true) ∧ Ch [] w w' := by
  simp only [fits] at *
  have hcs := cutS_size seed 300
  obtain ⟨m, hm⟩ : ∃ m : Nat, (300 < n ∧ (m : Int) = 300) ∨ (n ≤ 300 ∧ (m : Int) = n) := ⟨(min n 300).toNat, by omega⟩
  refine calls_of (n := 107) (E := [(0, .string seed), (1, .int .i64 n), (2, .int .i64 i)]) (W := Hp w [] []) Try.func3 rfl rfl (Nat.le_of_ble_eq_true rfl) rfl (Hp.nil _ _) ?_
  refine jc_seq ?_
  -- region 0
  refine jc_region ?_
  refine jl_y rfl (by decide) rfl (y_assign rfl) ?_
  refine jl_nil ?_
  refine jq_then ?_
  refine jc_seq ?_
  -- region 1
  refine jc_region ?_
  refine jl_y rfl (by decide) rfl (y_move rfl) ?_
  refine jl_y rfl (by decide) rfl (y_move rfl) ?_
  refine jl_y rfl (by decide) rfl (y_len_str rfl) ?_
  refine jl_y rfl (by decide) rfl (y_min rfl rfl) ?_
  refine jl_y rfl (by decide) rfl (y_substr_hi rfl rfl (by omega) (by omega)) ?_
  refine jl_as (congrArg Value.string (cut_eq _ 300)) ?_
  refine jl_y rfl (by decide) rfl (y_assign rfl) ?_
  refine jl_nil ?_
  refine jq_then ?_
  refine jc_seq ?_
  -- region 2
  refine jc_region ?_
  refine jl_y rfl (by decide) rfl (y_move rfl) ?_
  refine jl_y rfl (by decide) rfl (y_assign rfl) ?_
  refine jl_nil ?_
  refine jq_then ?_
  refine jc_seq ?_
  refine jc_seq ?_
  -- region 3
  refine jc_region ?_
  refine jl_y rfl (by decide) rfl (y_move rfl) ?_
  refine jl_y rfl (by decide) rfl (y_gtr rfl rfl) ?_
  refine jl_prop (fun h19 => ?_) (fun h19 => ?_)
  · first
    | (exfalso; omega)
    | (
      refine jl_y rfl (by decide) rfl (y_move rfl) ?_
      refine jl_y rfl (by decide) rfl (y_move rfl) ?_
      refine jl_y rfl (by decide) rfl (y_leq rfl rfl) ?_
      refine jl_prop (fun h22 => ?_) (fun h22 => ?_)
      · first
        | (exfalso; omega)
        | (
          refine jl_y rfl (by decide) rfl (y_pick_true rfl rfl) ?_
          refine jl_nil ?_
          refine jq_then ?_
          refine jc_true rfl ?_
          -- region 4
          refine jc_region ?_
          refine jl_y rfl (by decide) rfl (y_assign rfl) ?_
          refine jl_nil ?_
          refine jq_then ?_
          refine jc_seq ?_
          -- region 5
          refine jc_region ?_
          refine jl_y rfl (by decide) rfl (y_move rfl) ?_
          refine jl_y rfl (by decide) rfl (y_move rfl) ?_
          refine jl_as (u := .int .i64 ((m : Nat) : Int)) (congrArg (Value.int .i64) (by omega)) ?_
          refine jl_kcall rfl (by decide) rfl (goes_func rfl) (fun w1 hw1 => new_ok ((cutS seed 300)) (m) w1 (by omega) (by omega) (by omega)) (fun bc wc hbc hcc => ?_)
          refine jl_y rfl (by decide) rfl (y_move rfl) ?_
          refine jl_y rfl (by decide) rfl (y_extract rfl rfl) ?_
          refine jl_y rfl (by decide) rfl (y_extract rfl rfl) ?_
          refine jl_y rfl (by decide) rfl (y_assign rfl) ?_
          refine jl_y rfl (by decide) rfl (y_assign rfl) ?_
          refine jl_nil ?_
          refine jq_then ?_
          refine jc_seq ?_
          refine jc_seq ?_
          -- region 6
          refine jc_region ?_
          refine jl_y rfl (by decide) rfl (y_move rfl) ?_
          refine jl_as (u := .int .i64 ((m : Nat) : Int)) (congrArg (Value.int .i64) (by omega)) ?_
          refine jl_y rfl (by decide) rfl (y_lss rfl rfl) ?_
          refine jl_prop (fun h31 => ?_) (fun h31 => ?_)
          · first
            | (exfalso; omega)
            | (
              refine jl_y rfl (by decide) rfl (y_move rfl) ?_
              refine jl_skip rfl (by decide) rfl ?_
              refine jl_skip rfl (by decide) rfl ?_
              refine jl_y rfl (by decide) rfl (y_pick_true rfl rfl) ?_
              refine jl_nil ?_
              refine jq_then ?_
              refine jc_true rfl ?_
              refine jc_seq ?_
              -- region 7
              refine jc_region ?_
              refine jl_y rfl (by decide) rfl (y_move rfl) ?_
              refine jl_y rfl (by decide) rfl (y_eql_nil rfl rfl) ?_
              refine jl_as (u := .bool false) rfl ?_
              refine jl_y rfl (by decide) rfl (y_move rfl) ?_
              refine jl_skip rfl (by decide) rfl ?_
              refine jl_skip rfl (by decide) rfl ?_
              refine jl_y rfl (by decide) rfl (y_pick_false rfl rfl) ?_
              refine jl_y rfl (by decide) rfl (y_move rfl) ?_
              refine jl_skip rfl (by decide) rfl ?_
              refine jl_y rfl (by decide) rfl (y_pick_false rfl rfl) ?_
              refine jl_y rfl (by decide) rfl (y_assign rfl) ?_
              refine jl_nil ?_
              refine jq_then ?_
              refine jc_ret ?_
              refine jq_then_ret ?_
              refine jq_ret1 rfl rfl ?_
              exact fun _ hw => ⟨rfl, (hbc.ch.then hw.ch)⟩
              )
          · first
            | (exfalso; omega)
            | (
              refine jl_y rfl (by decide) rfl (y_move rfl) ?_
              refine jl_y rfl (by decide) rfl (y_move rfl) ?_
              refine jl_as (u := .int .i64 ((m : Nat) : Int)) (congrArg (Value.int .i64) (by omega)) ?_
              refine jl_y rfl (by decide) rfl (y_gtr rfl rfl) ?_
              refine jl_prop (fun h34 => ?_) (fun h34 => ?_)
              · first
                | (exfalso; omega)
                | (
                  refine jl_y rfl (by decide) rfl (y_pick_false rfl rfl) ?_
                  refine jl_nil ?_
                  refine jq_then ?_
                  refine jc_true rfl ?_
                  refine jc_seq ?_
                  -- region 7
                  refine jc_region ?_
                  refine jl_y rfl (by decide) rfl (y_move rfl) ?_
                  refine jl_y rfl (by decide) rfl (y_eql_nil rfl rfl) ?_
                  refine jl_as (u := .bool false) rfl ?_
                  refine jl_y rfl (by decide) rfl (y_move rfl) ?_
                  refine jl_skip rfl (by decide) rfl ?_
                  refine jl_skip rfl (by decide) rfl ?_
                  refine jl_y rfl (by decide) rfl (y_pick_false rfl rfl) ?_
                  refine jl_y rfl (by decide) rfl (y_move rfl) ?_
                  refine jl_skip rfl (by decide) rfl ?_
                  refine jl_y rfl (by decide) rfl (y_pick_false rfl rfl) ?_
                  refine jl_y rfl (by decide) rfl (y_assign rfl) ?_
                  refine jl_nil ?_
                  refine jq_then ?_
                  refine jc_ret ?_
                  refine jq_then_ret ?_
                  refine jq_ret1 rfl rfl ?_
                  exact fun _ hw => ⟨rfl, (hbc.ch.then hw.ch)⟩
                  )
              · first
                | (exfalso; omega)
                | (
                  refine jl_y rfl (by decide) rfl (y_pick_false rfl rfl) ?_
                  refine jl_nil ?_
                  refine jq_then ?_
                  refine jc_false rfl ?_
                  refine jc_skip ?_
                  refine jq_then ?_
                  refine jc_seq ?_
                  refine jc_seq ?_
                  -- region 8
                  refine jc_region ?_
                  refine jl_y rfl (by decide) rfl (y_move rfl) ?_
                  refine jl_y rfl (by decide) rfl (y_eql_nil rfl rfl) ?_
                  refine jl_as (u := .bool false) rfl ?_
                  refine jl_y rfl (by decide) rfl (y_move rfl) ?_
                  refine jl_y rfl (by decide) rfl (y_move rfl) ?_
                  refine jl_y rfl (by decide) rfl (y_neq rfl rfl) ?_
                  refine jl_prop (fun h49 => ?_) (fun h49 => ?_)
                  · first
                    | (exfalso; omega)
                    | (
                      refine jl_y rfl (by decide) rfl (y_pick_false rfl rfl) ?_
                      refine jl_y rfl (by decide) rfl (y_move rfl) ?_
                      refine jl_skip rfl (by decide) rfl ?_
                      refine jl_skip rfl (by decide) rfl ?_
                      refine jl_skip rfl (by decide) rfl ?_
                      refine jl_skip rfl (by decide) rfl ?_
                      refine jl_y rfl (by decide) rfl (y_pick_true rfl rfl) ?_
                      refine jl_y rfl (by decide) rfl (y_move rfl) ?_
                      refine jl_skip rfl (by decide) rfl ?_
                      refine jl_skip rfl (by decide) rfl ?_
                      refine jl_skip rfl (by decide) rfl ?_
                      refine jl_skip rfl (by decide) rfl ?_
                      refine jl_skip rfl (by decide) rfl ?_
                      refine jl_skip rfl (by decide) rfl ?_
                      refine jl_y rfl (by decide) rfl (y_pick_true rfl rfl) ?_
                      refine jl_nil ?_
                      refine jq_then ?_
                      refine jc_true rfl ?_
                      refine jc_seq ?_
                      -- region 9
                      refine jc_region ?_
                      refine jl_y rfl (by decide) rfl (y_assign rfl) ?_
                      refine jl_nil ?_
                      refine jq_then ?_
                      refine jc_ret ?_
                      refine jq_then_ret ?_
                      refine jq_ret1 rfl rfl ?_
                      exact fun _ hw => ⟨rfl, (hbc.ch.then hw.ch)⟩
                      )
                  · first
                    | (exfalso; omega)
                    | (
                      refine jl_y rfl (by decide) rfl (y_pick_false rfl rfl) ?_
                      refine jl_y rfl (by decide) rfl (y_move rfl) ?_
                      refine jl_y rfl (by decide) rfl (y_move rfl) ?_
                      refine jl_pcall rfl (by decide) rfl (goes_func rfl) (fun w1 hw1 => pcall hw1 (len_any _ _ _ w1 (hcc.keep hw1) (by omega))) ?_
                      refine jl_y rfl (by decide) rfl (y_move rfl) ?_
                      refine jl_as (u := .int .i64 ((m : Nat) : Int)) (congrArg (Value.int .i64) (by omega)) ?_
                      refine jl_y rfl (by decide) rfl (y_neq rfl rfl) ?_
                      refine jl_prop (fun h55 => ?_) (fun h55 => ?_)
                      · first
                        | (exfalso; omega)
                        | (
                          refine jl_y rfl (by decide) rfl (y_pick_false rfl rfl) ?_
                          refine jl_y rfl (by decide) rfl (y_move rfl) ?_
                          refine jl_skip rfl (by decide) rfl ?_
                          refine jl_skip rfl (by decide) rfl ?_
                          refine jl_skip rfl (by decide) rfl ?_
                          refine jl_skip rfl (by decide) rfl ?_
                          refine jl_skip rfl (by decide) rfl ?_
                          refine jl_skip rfl (by decide) rfl ?_
                          refine jl_y rfl (by decide) rfl (y_pick_true rfl rfl) ?_
                          refine jl_nil ?_
                          refine jq_then ?_
                          refine jc_true rfl ?_
                          refine jc_seq ?_
                          -- region 9
                          refine jc_region ?_
                          refine jl_y rfl (by decide) rfl (y_assign rfl) ?_
                          refine jl_nil ?_
                          refine jq_then ?_
                          refine jc_ret ?_
                          refine jq_then_ret ?_
                          refine jq_ret1 rfl rfl ?_
                          exact fun _ hw => ⟨rfl, (hbc.ch.then hw.ch)⟩
                          )
                      · first
                        | (exfalso; omega)
                        | (
                          refine jl_y rfl (by decide) rfl (y_pick_false rfl rfl) ?_
                          refine jl_y rfl (by decide) rfl (y_move rfl) ?_
                          refine jl_y rfl (by decide) rfl (y_move rfl) ?_
                          refine jl_pcall rfl (by decide) rfl (goes_func rfl) (fun w1 hw1 => pcall hw1 (anchor_any _ _ _ w1 (hcc.keep hw1))) ?_
                          refine jl_y rfl (by decide) rfl (y_move rfl) ?_
                          refine jl_y rfl (by decide) rfl (y_move rfl) ?_
                          refine jl_as (u := .int .i64 ((m : Nat) : Int)) (congrArg (Value.int .i64) (by omega)) ?_
                          refine jl_pcall rfl (by decide) rfl (goes_func rfl) (fun w1 hw1 => pcall hw1 (rtoken_any (cutS seed 300) m 0 w1 (by omega) (by omega) (by omega))) ?_
                          refine jl_y rfl (by decide) rfl (y_sneq rfl rfl) ?_
                          refine jl_as (u := .bool false) (congrArg (fun b => Value.bool (!b)) (decide_eq_true (rfl))) ?_
                          refine jl_y rfl (by decide) rfl (y_pick_false rfl rfl) ?_
                          refine jl_nil ?_
                          refine jq_then ?_
                          refine jc_false rfl ?_
                          refine jc_skip ?_
                          refine jq_then ?_
                          refine jc_seq ?_
                          -- region 10
                          refine jc_region ?_
                          refine jl_y rfl (by decide) rfl (y_move rfl) ?_
                          refine jl_y rfl (by decide) rfl (y_move rfl) ?_
                          refine jl_pcall rfl (by decide) rfl (goes_func rfl) (fun w1 hw1 => pcall hw1 (token_any _ _ _ w1 (hcc.keep hw1) _)) ?_
                          refine jl_y rfl (by decide) rfl (y_move rfl) ?_
                          refine jl_y rfl (by decide) rfl (y_extract rfl rfl) ?_
                          refine jl_y rfl (by decide) rfl (y_extract rfl rfl) ?_
                          refine jl_y rfl (by decide) rfl (y_assign rfl) ?_
                          refine jl_y rfl (by decide) rfl (y_assign rfl) ?_
                          refine jl_nil ?_
                          refine jq_then ?_
                          refine jc_seq ?_
                          refine jc_seq ?_
                          -- region 11
                          refine jc_region ?_
                          refine jl_y rfl (by decide) rfl (y_move rfl) ?_
                          refine jl_y rfl (by decide) rfl (y_lss rfl rfl) ?_
                          refine jl_prop (fun h72 => ?_) (fun h72 => ?_)
                          · first
                            | (exfalso; omega)
                            | (
                              refine jl_y rfl (by decide) rfl (y_move rfl) ?_
                              refine jl_skip rfl (by decide) rfl ?_
                              refine jl_skip rfl (by decide) rfl ?_
                              refine jl_skip rfl (by decide) rfl ?_
                              refine jl_y rfl (by decide) rfl (y_pick_true rfl rfl) ?_
                              refine jl_nil ?_
                              refine jq_then ?_
                              refine jc_true rfl ?_
                              refine jc_seq ?_
                              -- region 12
                              have ho := @tok_out (cutS seed 300) m i (by omega)
                              have ho2 := ho.2
                              refine jc_region ?_
                              refine jl_y rfl (by decide) rfl (y_move rfl) ?_
                              refine jl_y rfl (by decide) rfl (y_seql rfl rfl) ?_
                              refine jl_as (u := .bool true) (congrArg (fun b => Value.bool b) (decide_eq_true (ho.1))) ?_
                              refine jl_y rfl (by decide) rfl (y_move rfl) ?_
                              refine jl_y rfl (by decide) rfl (y_move rfl) ?_
                              refine jl_y rfl (by decide) rfl (y_eql rfl rfl) ?_
                              refine jl_prop (fun h82 => ?_) (fun h82 => ?_)
                              · first
                                | (exfalso; omega)
                                | (
                                  refine jl_y rfl (by decide) rfl (y_pick_true rfl rfl) ?_
                                  refine jl_y rfl (by decide) rfl (y_move rfl) ?_
                                  refine jl_pcall rfl (by decide) rfl (goes_func rfl) (fun w1 hw1 => pcall hw1 (fixed4_any w1)) ?_
                                  refine jl_y rfl (by decide) rfl (y_pick_true rfl rfl) ?_
                                  refine jl_y rfl (by decide) rfl (y_assign rfl) ?_
                                  refine jl_nil ?_
                                  refine jq_then ?_
                                  refine jc_ret ?_
                                  refine jq_then_ret ?_
                                  refine jq_ret1 rfl rfl ?_
                                  exact fun _ hw => ⟨rfl, (hbc.ch.then hw.ch)⟩
                                  )
                              · first
                                | (exfalso; omega)
                                | (
                                  refine jl_y rfl (by decide) rfl (y_pick_true rfl rfl) ?_
                                  refine jl_y rfl (by decide) rfl (y_move rfl) ?_
                                  refine jl_skip rfl (by decide) rfl ?_
                                  refine jl_y rfl (by decide) rfl (y_pick_false rfl rfl) ?_
                                  refine jl_y rfl (by decide) rfl (y_assign rfl) ?_
                                  refine jl_nil ?_
                                  refine jq_then ?_
                                  refine jc_ret ?_
                                  refine jq_then_ret ?_
                                  refine jq_ret1 rfl rfl ?_
                                  exact fun _ hw => ⟨rfl, (hbc.ch.then hw.ch)⟩
                                  )
                              )
                          · first
                            | (exfalso; omega)
                            | (
                              refine jl_y rfl (by decide) rfl (y_move rfl) ?_
                              refine jl_y rfl (by decide) rfl (y_move rfl) ?_
                              refine jl_y rfl (by decide) rfl (y_move rfl) ?_
                              refine jl_as (u := .int .i64 ((m : Nat) : Int)) (congrArg (Value.int .i64) (by omega)) ?_
                              refine jl_y rfl (by decide) rfl (y_gtr rfl rfl) ?_
                              refine jl_prop (fun h76 => ?_) (fun h76 => ?_)
                              · first
                                | (exfalso; omega)
                                | (
                                  refine jl_y rfl (by decide) rfl (y_pick_false rfl rfl) ?_
                                  refine jl_nil ?_
                                  refine jq_then ?_
                                  refine jc_true rfl ?_
                                  refine jc_seq ?_
                                  -- region 12
                                  have ho := @tok_out (cutS seed 300) m i (by omega)
                                  have ho2 := ho.2
                                  refine jc_region ?_
                                  refine jl_y rfl (by decide) rfl (y_move rfl) ?_
                                  refine jl_y rfl (by decide) rfl (y_seql rfl rfl) ?_
                                  refine jl_as (u := .bool true) (congrArg (fun b => Value.bool b) (decide_eq_true (ho.1))) ?_
                                  refine jl_y rfl (by decide) rfl (y_move rfl) ?_
                                  refine jl_y rfl (by decide) rfl (y_move rfl) ?_
                                  refine jl_y rfl (by decide) rfl (y_eql rfl rfl) ?_
                                  refine jl_prop (fun h82 => ?_) (fun h82 => ?_)
                                  · first
                                    | (exfalso; omega)
                                    | (
                                      refine jl_y rfl (by decide) rfl (y_pick_true rfl rfl) ?_
                                      refine jl_y rfl (by decide) rfl (y_move rfl) ?_
                                      refine jl_pcall rfl (by decide) rfl (goes_func rfl) (fun w1 hw1 => pcall hw1 (fixed4_any w1)) ?_
                                      refine jl_y rfl (by decide) rfl (y_pick_true rfl rfl) ?_
                                      refine jl_y rfl (by decide) rfl (y_assign rfl) ?_
                                      refine jl_nil ?_
                                      refine jq_then ?_
                                      refine jc_ret ?_
                                      refine jq_then_ret ?_
                                      refine jq_ret1 rfl rfl ?_
                                      exact fun _ hw => ⟨rfl, (hbc.ch.then hw.ch)⟩
                                      )
                                  · first
                                    | (exfalso; omega)
                                    | (
                                      refine jl_y rfl (by decide) rfl (y_pick_true rfl rfl) ?_
                                      refine jl_y rfl (by decide) rfl (y_move rfl) ?_
                                      refine jl_skip rfl (by decide) rfl ?_
                                      refine jl_y rfl (by decide) rfl (y_pick_false rfl rfl) ?_
                                      refine jl_y rfl (by decide) rfl (y_assign rfl) ?_
                                      refine jl_nil ?_
                                      refine jq_then ?_
                                      refine jc_ret ?_
                                      refine jq_then_ret ?_
                                      refine jq_ret1 rfl rfl ?_
                                      exact fun _ hw => ⟨rfl, (hbc.ch.then hw.ch)⟩
                                      )
                                  )
                              · first
                                | (exfalso; omega)
                                | (
                                  refine jl_y rfl (by decide) rfl (y_pick_false rfl rfl) ?_
                                  refine jl_nil ?_
                                  refine jq_then ?_
                                  refine jc_false rfl ?_
                                  refine jc_skip ?_
                                  refine jq_then ?_
                                  refine jc_seq ?_
                                  -- region 13
                                  obtain ⟨j, rfl⟩ : ∃ j : Nat, i = (j : Int) := ⟨i.toNat, by omega⟩
                                  have ho := @tok_in (cutS seed 300) m j (by omega)
                                  have ho2 := ho.2
                                  refine jc_region ?_
                                  refine jl_y rfl (by decide) rfl (y_move rfl) ?_
                                  refine jl_y rfl (by decide) rfl (y_move rfl) ?_
                                  refine jl_y rfl (by decide) rfl (y_move rfl) ?_
                                  refine jl_as (u := .int .i64 ((m : Nat) : Int)) (congrArg (Value.int .i64) (by omega)) ?_
                                  refine jl_y rfl (by decide) rfl (y_move rfl) ?_
                                  refine jl_pcall rfl (by decide) rfl (goes_func rfl) (fun w1 hw1 => pcall hw1 (rtoken_any (cutS seed 300) m j w1 (by omega) (by omega) (by omega))) ?_
                                  refine jl_y rfl (by decide) rfl (y_seql rfl rfl) ?_
                                  refine jl_as (u := .bool true) (congrArg (fun b => Value.bool b) (decide_eq_true (ho.1))) ?_
                                  refine jl_y rfl (by decide) rfl (y_move rfl) ?_
                                  refine jl_y rfl (by decide) rfl (y_move rfl) ?_
                                  refine jl_y rfl (by decide) rfl (y_eql rfl rfl) ?_
                                  refine jl_prop (fun h95 => ?_) (fun h95 => ?_)
                                  · first
                                    | (exfalso; omega)
                                    | (
                                      refine jl_y rfl (by decide) rfl (y_pick_true rfl rfl) ?_
                                      refine jl_y rfl (by decide) rfl (y_move rfl) ?_
                                      refine jl_y rfl (by decide) rfl (y_move rfl) ?_
                                      refine jl_pcall rfl (by decide) rfl (goes_func rfl) (fun w1 hw1 => pcall hw1 (next_any _ w1 (by rw [ho.1, tokS_size]; decide))) ?_
                                      refine jl_y rfl (by decide) rfl (y_move rfl) ?_
                                      refine jl_pcall rfl (by decide) rfl (goes_func rfl) (fun w1 hw1 => pcall hw1 (rnext_any _ w1 (by rw [ho.1, tokS_size]; decide))) ?_
                                      refine jl_y rfl (by decide) rfl (y_seql rfl rfl) ?_
                                      refine jl_as (u := .bool true) (congrArg (fun b => Value.bool b) (decide_eq_true (rfl))) ?_
                                      refine jl_y rfl (by decide) rfl (y_pick_true rfl rfl) ?_
                                      refine jl_y rfl (by decide) rfl (y_move rfl) ?_
                                      refine jl_pcall rfl (by decide) rfl (goes_func rfl) (fun w1 hw1 => pcall hw1 (fixed4_any w1)) ?_
                                      refine jl_y rfl (by decide) rfl (y_pick_true rfl rfl) ?_
                                      refine jl_y rfl (by decide) rfl (y_assign rfl) ?_
                                      refine jl_nil ?_
                                      refine jq_then ?_
                                      refine jc_ret ?_
                                      refine jq_ret1 rfl rfl ?_
                                      exact fun _ hw => ⟨rfl, (hbc.ch.then hw.ch)⟩
                                      )
                                  · first
                                    | (exfalso; omega)
                                    | (
                                      refine jl_y rfl (by decide) rfl (y_pick_true rfl rfl) ?_
                                      refine jl_y rfl (by decide) rfl (y_move rfl) ?_
                                      refine jl_skip rfl (by decide) rfl ?_
                                      refine jl_skip rfl (by decide) rfl ?_
                                      refine jl_skip rfl (by decide) rfl ?_
                                      refine jl_skip rfl (by decide) rfl ?_
                                      refine jl_skip rfl (by decide) rfl ?_
                                      refine jl_y rfl (by decide) rfl (y_pick_false rfl rfl) ?_
                                      refine jl_y rfl (by decide) rfl (y_move rfl) ?_
                                      refine jl_skip rfl (by decide) rfl ?_
                                      refine jl_y rfl (by decide) rfl (y_pick_false rfl rfl) ?_
                                      refine jl_y rfl (by decide) rfl (y_assign rfl) ?_
                                      refine jl_nil ?_
                                      refine jq_then ?_
                                      refine jc_ret ?_
                                      refine jq_ret1 rfl rfl ?_
                                      exact fun _ hw => ⟨rfl, (hbc.ch.then hw.ch)⟩
                                      )
                                  )
                              )
                          )
                      )
                  )
              )
          )
      · first
        | (exfalso; omega)
        | (
          refine jl_y rfl (by decide) rfl (y_pick_true rfl rfl) ?_
          refine jl_nil ?_
          refine jq_then ?_
          refine jc_false rfl ?_
          refine jc_skip ?_
          refine jq_then ?_
          refine jc_seq ?_
          -- region 5
          refine jc_region ?_
          refine jl_y rfl (by decide) rfl (y_move rfl) ?_
          refine jl_y rfl (by decide) rfl (y_move rfl) ?_
          refine jl_as (u := .int .i64 ((m : Nat) : Int)) (congrArg (Value.int .i64) (by omega)) ?_
          refine jl_kcall rfl (by decide) rfl (goes_func rfl) (fun w1 hw1 => new_ok ((cutS seed 300)) (m) w1 (by omega) (by omega) (by omega)) (fun bc wc hbc hcc => ?_)
          refine jl_y rfl (by decide) rfl (y_move rfl) ?_
          refine jl_y rfl (by decide) rfl (y_extract rfl rfl) ?_
          refine jl_y rfl (by decide) rfl (y_extract rfl rfl) ?_
          refine jl_y rfl (by decide) rfl (y_assign rfl) ?_
          refine jl_y rfl (by decide) rfl (y_assign rfl) ?_
          refine jl_nil ?_
          refine jq_then ?_
          refine jc_seq ?_
          refine jc_seq ?_
          -- region 6
          refine jc_region ?_
          refine jl_y rfl (by decide) rfl (y_move rfl) ?_
          refine jl_as (u := .int .i64 ((m : Nat) : Int)) (congrArg (Value.int .i64) (by omega)) ?_
          refine jl_y rfl (by decide) rfl (y_lss rfl rfl) ?_
          refine jl_prop (fun h31 => ?_) (fun h31 => ?_)
          · first
            | (exfalso; omega)
            | (
              refine jl_y rfl (by decide) rfl (y_move rfl) ?_
              refine jl_skip rfl (by decide) rfl ?_
              refine jl_skip rfl (by decide) rfl ?_
              refine jl_y rfl (by decide) rfl (y_pick_true rfl rfl) ?_
              refine jl_nil ?_
              refine jq_then ?_
              refine jc_true rfl ?_
              refine jc_seq ?_
              -- region 7
              refine jc_region ?_
              refine jl_y rfl (by decide) rfl (y_move rfl) ?_
              refine jl_y rfl (by decide) rfl (y_eql_nil rfl rfl) ?_
              refine jl_as (u := .bool false) rfl ?_
              refine jl_y rfl (by decide) rfl (y_move rfl) ?_
              refine jl_skip rfl (by decide) rfl ?_
              refine jl_skip rfl (by decide) rfl ?_
              refine jl_y rfl (by decide) rfl (y_pick_false rfl rfl) ?_
              refine jl_y rfl (by decide) rfl (y_move rfl) ?_
              refine jl_skip rfl (by decide) rfl ?_
              refine jl_y rfl (by decide) rfl (y_pick_false rfl rfl) ?_
              refine jl_y rfl (by decide) rfl (y_assign rfl) ?_
              refine jl_nil ?_
              refine jq_then ?_
              refine jc_ret ?_
              refine jq_then_ret ?_
              refine jq_ret1 rfl rfl ?_
              exact fun _ hw => ⟨rfl, (hbc.ch.then hw.ch)⟩
              )
          · first
            | (exfalso; omega)
            | (
              refine jl_y rfl (by decide) rfl (y_move rfl) ?_
              refine jl_y rfl (by decide) rfl (y_move rfl) ?_
              refine jl_as (u := .int .i64 ((m : Nat) : Int)) (congrArg (Value.int .i64) (by omega)) ?_
              refine jl_y rfl (by decide) rfl (y_gtr rfl rfl) ?_
              refine jl_prop (fun h34 => ?_) (fun h34 => ?_)
              · first
                | (exfalso; omega)
                | (
                  refine jl_y rfl (by decide) rfl (y_pick_false rfl rfl) ?_
                  refine jl_nil ?_
                  refine jq_then ?_
                  refine jc_true rfl ?_
                  refine jc_seq ?_
                  -- region 7
                  refine jc_region ?_
                  refine jl_y rfl (by decide) rfl (y_move rfl) ?_
                  refine jl_y rfl (by decide) rfl (y_eql_nil rfl rfl) ?_
                  refine jl_as (u := .bool false) rfl ?_
                  refine jl_y rfl (by decide) rfl (y_move rfl) ?_
                  refine jl_skip rfl (by decide) rfl ?_
                  refine jl_skip rfl (by decide) rfl ?_
                  refine jl_y rfl (by decide) rfl (y_pick_false rfl rfl) ?_
                  refine jl_y rfl (by decide) rfl (y_move rfl) ?_
                  refine jl_skip rfl (by decide) rfl ?_
                  refine jl_y rfl (by decide) rfl (y_pick_false rfl rfl) ?_
                  refine jl_y rfl (by decide) rfl (y_assign rfl) ?_
                  refine jl_nil ?_
                  refine jq_then ?_
                  refine jc_ret ?_
                  refine jq_then_ret ?_
                  refine jq_ret1 rfl rfl ?_
                  exact fun _ hw => ⟨rfl, (hbc.ch.then hw.ch)⟩
                  )
              · first
                | (exfalso; omega)
                | (
                  refine jl_y rfl (by decide) rfl (y_pick_false rfl rfl) ?_
                  refine jl_nil ?_
                  refine jq_then ?_
                  refine jc_false rfl ?_
                  refine jc_skip ?_
                  refine jq_then ?_
                  refine jc_seq ?_
                  refine jc_seq ?_
                  -- region 8
                  refine jc_region ?_
                  refine jl_y rfl (by decide) rfl (y_move rfl) ?_
                  refine jl_y rfl (by decide) rfl (y_eql_nil rfl rfl) ?_
                  refine jl_as (u := .bool false) rfl ?_
                  refine jl_y rfl (by decide) rfl (y_move rfl) ?_
                  refine jl_y rfl (by decide) rfl (y_move rfl) ?_
                  refine jl_y rfl (by decide) rfl (y_neq rfl rfl) ?_
                  refine jl_prop (fun h49 => ?_) (fun h49 => ?_)
                  · first
                    | (exfalso; omega)
                    | (
                      refine jl_y rfl (by decide) rfl (y_pick_false rfl rfl) ?_
                      refine jl_y rfl (by decide) rfl (y_move rfl) ?_
                      refine jl_skip rfl (by decide) rfl ?_
                      refine jl_skip rfl (by decide) rfl ?_
                      refine jl_skip rfl (by decide) rfl ?_
                      refine jl_skip rfl (by decide) rfl ?_
                      refine jl_y rfl (by decide) rfl (y_pick_true rfl rfl) ?_
                      refine jl_y rfl (by decide) rfl (y_move rfl) ?_
                      refine jl_skip rfl (by decide) rfl ?_
                      refine jl_skip rfl (by decide) rfl ?_
                      refine jl_skip rfl (by decide) rfl ?_
                      refine jl_skip rfl (by decide) rfl ?_
                      refine jl_skip rfl (by decide) rfl ?_
                      refine jl_skip rfl (by decide) rfl ?_
                      refine jl_y rfl (by decide) rfl (y_pick_true rfl rfl) ?_
                      refine jl_nil ?_
                      refine jq_then ?_
                      refine jc_true rfl ?_
                      refine jc_seq ?_
                      -- region 9
                      refine jc_region ?_
                      refine jl_y rfl (by decide) rfl (y_assign rfl) ?_
                      refine jl_nil ?_
                      refine jq_then ?_
                      refine jc_ret ?_
                      refine jq_then_ret ?_
                      refine jq_ret1 rfl rfl ?_
                      exact fun _ hw => ⟨rfl, (hbc.ch.then hw.ch)⟩
                      )
                  · first
                    | (exfalso; omega)
                    | (
                      refine jl_y rfl (by decide) rfl (y_pick_false rfl rfl) ?_
                      refine jl_y rfl (by decide) rfl (y_move rfl) ?_
                      refine jl_y rfl (by decide) rfl (y_move rfl) ?_
                      refine jl_pcall rfl (by decide) rfl (goes_func rfl) (fun w1 hw1 => pcall hw1 (len_any _ _ _ w1 (hcc.keep hw1) (by omega))) ?_
                      refine jl_y rfl (by decide) rfl (y_move rfl) ?_
                      refine jl_as (u := .int .i64 ((m : Nat) : Int)) (congrArg (Value.int .i64) (by omega)) ?_
                      refine jl_y rfl (by decide) rfl (y_neq rfl rfl) ?_
                      refine jl_prop (fun h55 => ?_) (fun h55 => ?_)
                      · first
                        | (exfalso; omega)
                        | (
                          refine jl_y rfl (by decide) rfl (y_pick_false rfl rfl) ?_
                          refine jl_y rfl (by decide) rfl (y_move rfl) ?_
                          refine jl_skip rfl (by decide) rfl ?_
                          refine jl_skip rfl (by decide) rfl ?_
                          refine jl_skip rfl (by decide) rfl ?_
                          refine jl_skip rfl (by decide) rfl ?_
                          refine jl_skip rfl (by decide) rfl ?_
                          refine jl_skip rfl (by decide) rfl ?_
                          refine jl_y rfl (by decide) rfl (y_pick_true rfl rfl) ?_
                          refine jl_nil ?_
                          refine jq_then ?_
                          refine jc_true rfl ?_
                          refine jc_seq ?_
                          -- region 9
                          refine jc_region ?_
                          refine jl_y rfl (by decide) rfl (y_assign rfl) ?_
                          refine jl_nil ?_
                          refine jq_then ?_
                          refine jc_ret ?_
                          refine jq_then_ret ?_
                          refine jq_ret1 rfl rfl ?_
                          exact fun _ hw => ⟨rfl, (hbc.ch.then hw.ch)⟩
                          )
                      · first
                        | (exfalso; omega)
                        | (
                          refine jl_y rfl (by decide) rfl (y_pick_false rfl rfl) ?_
                          refine jl_y rfl (by decide) rfl (y_move rfl) ?_
                          refine jl_y rfl (by decide) rfl (y_move rfl) ?_
                          refine jl_pcall rfl (by decide) rfl (goes_func rfl) (fun w1 hw1 => pcall hw1 (anchor_any _ _ _ w1 (hcc.keep hw1))) ?_
                          refine jl_y rfl (by decide) rfl (y_move rfl) ?_
                          refine jl_y rfl (by decide) rfl (y_move rfl) ?_
                          refine jl_as (u := .int .i64 ((m : Nat) : Int)) (congrArg (Value.int .i64) (by omega)) ?_
                          refine jl_pcall rfl (by decide) rfl (goes_func rfl) (fun w1 hw1 => pcall hw1 (rtoken_any (cutS seed 300) m 0 w1 (by omega) (by omega) (by omega))) ?_
                          refine jl_y rfl (by decide) rfl (y_sneq rfl rfl) ?_
                          refine jl_as (u := .bool false) (congrArg (fun b => Value.bool (!b)) (decide_eq_true (rfl))) ?_
                          refine jl_y rfl (by decide) rfl (y_pick_false rfl rfl) ?_
                          refine jl_nil ?_
                          refine jq_then ?_
                          refine jc_false rfl ?_
                          refine jc_skip ?_
                          refine jq_then ?_
                          refine jc_seq ?_
                          -- region 10
                          refine jc_region ?_
                          refine jl_y rfl (by decide) rfl (y_move rfl) ?_
                          refine jl_y rfl (by decide) rfl (y_move rfl) ?_
                          refine jl_pcall rfl (by decide) rfl (goes_func rfl) (fun w1 hw1 => pcall hw1 (token_any _ _ _ w1 (hcc.keep hw1) _)) ?_
                          refine jl_y rfl (by decide) rfl (y_move rfl) ?_
                          refine jl_y rfl (by decide) rfl (y_extract rfl rfl) ?_
                          refine jl_y rfl (by decide) rfl (y_extract rfl rfl) ?_
                          refine jl_y rfl (by decide) rfl (y_assign rfl) ?_
                          refine jl_y rfl (by decide) rfl (y_assign rfl) ?_
                          refine jl_nil ?_
                          refine jq_then ?_
                          refine jc_seq ?_
                          refine jc_seq ?_
                          -- region 11
                          refine jc_region ?_
                          refine jl_y rfl (by decide) rfl (y_move rfl) ?_
                          refine jl_y rfl (by decide) rfl (y_lss rfl rfl) ?_
                          refine jl_prop (fun h72 => ?_) (fun h72 => ?_)
                          · first
                            | (exfalso; omega)
                            | (
                              refine jl_y rfl (by decide) rfl (y_move rfl) ?_
                              refine jl_skip rfl (by decide) rfl ?_
                              refine jl_skip rfl (by decide) rfl ?_
                              refine jl_skip rfl (by decide) rfl ?_
                              refine jl_y rfl (by decide) rfl (y_pick_true rfl rfl) ?_
                              refine jl_nil ?_
                              refine jq_then ?_
                              refine jc_true rfl ?_
                              refine jc_seq ?_
                              -- region 12
                              have ho := @tok_out (cutS seed 300) m i (by omega)
                              have ho2 := ho.2
                              refine jc_region ?_
                              refine jl_y rfl (by decide) rfl (y_move rfl) ?_
                              refine jl_y rfl (by decide) rfl (y_seql rfl rfl) ?_
                              refine jl_as (u := .bool true) (congrArg (fun b => Value.bool b) (decide_eq_true (ho.1))) ?_
                              refine jl_y rfl (by decide) rfl (y_move rfl) ?_
                              refine jl_y rfl (by decide) rfl (y_move rfl) ?_
                              refine jl_y rfl (by decide) rfl (y_eql rfl rfl) ?_
                              refine jl_prop (fun h82 => ?_) (fun h82 => ?_)
                              · first
                                | (exfalso; omega)
                                | (
                                  refine jl_y rfl (by decide) rfl (y_pick_true rfl rfl) ?_
                                  refine jl_y rfl (by decide) rfl (y_move rfl) ?_
                                  refine jl_pcall rfl (by decide) rfl (goes_func rfl) (fun w1 hw1 => pcall hw1 (fixed4_any w1)) ?_
                                  refine jl_y rfl (by decide) rfl (y_pick_true rfl rfl) ?_
                                  refine jl_y rfl (by decide) rfl (y_assign rfl) ?_
                                  refine jl_nil ?_
                                  refine jq_then ?_
                                  refine jc_ret ?_
                                  refine jq_then_ret ?_
                                  refine jq_ret1 rfl rfl ?_
                                  exact fun _ hw => ⟨rfl, (hbc.ch.then hw.ch)⟩
                                  )
                              · first
                                | (exfalso; omega)
                                | (
                                  refine jl_y rfl (by decide) rfl (y_pick_true rfl rfl) ?_
                                  refine jl_y rfl (by decide) rfl (y_move rfl) ?_
                                  refine jl_skip rfl (by decide) rfl ?_
                                  refine jl_y rfl (by decide) rfl (y_pick_false rfl rfl) ?_
                                  refine jl_y rfl (by decide) rfl (y_assign rfl) ?_
                                  refine jl_nil ?_
                                  refine jq_then ?_
                                  refine jc_ret ?_
                                  refine jq_then_ret ?_
                                  refine jq_ret1 rfl rfl ?_
                                  exact fun _ hw => ⟨rfl, (hbc.ch.then hw.ch)⟩
                                  )
                              )
                          · first
                            | (exfalso; omega)
                            | (
                              refine jl_y rfl (by decide) rfl (y_move rfl) ?_
                              refine jl_y rfl (by decide) rfl (y_move rfl) ?_
                              refine jl_y rfl (by decide) rfl (y_move rfl) ?_
                              refine jl_as (u := .int .i64 ((m : Nat) : Int)) (congrArg (Value.int .i64) (by omega)) ?_
                              refine jl_y rfl (by decide) rfl (y_gtr rfl rfl) ?_
                              refine jl_prop (fun h76 => ?_) (fun h76 => ?_)
                              · first
                                | (exfalso; omega)
                                | (
                                  refine jl_y rfl (by decide) rfl (y_pick_false rfl rfl) ?_
                                  refine jl_nil ?_
                                  refine jq_then ?_
                                  refine jc_true rfl ?_
                                  refine jc_seq ?_
                                  -- region 12
                                  have ho := @tok_out (cutS seed 300) m i (by omega)
                                  have ho2 := ho.2
                                  refine jc_region ?_
                                  refine jl_y rfl (by decide) rfl (y_move rfl) ?_
                                  refine jl_y rfl (by decide) rfl (y_seql rfl rfl) ?_
                                  refine jl_as (u := .bool true) (congrArg (fun b => Value.bool b) (decide_eq_true (ho.1))) ?_
                                  refine jl_y rfl (by decide) rfl (y_move rfl) ?_
                                  refine jl_y rfl (by decide) rfl (y_move rfl) ?_
                                  refine jl_y rfl (by decide) rfl (y_eql rfl rfl) ?_
                                  refine jl_prop (fun h82 => ?_) (fun h82 => ?_)
                                  · first
                                    | (exfalso; omega)
                                    | (
                                      refine jl_y rfl (by decide) rfl (y_pick_true rfl rfl) ?_
                                      refine jl_y rfl (by decide) rfl (y_move rfl) ?_
                                      refine jl_pcall rfl (by decide) rfl (goes_func rfl) (fun w1 hw1 => pcall hw1 (fixed4_any w1)) ?_
                                      refine jl_y rfl (by decide) rfl (y_pick_true rfl rfl) ?_
                                      refine jl_y rfl (by decide) rfl (y_assign rfl) ?_
                                      refine jl_nil ?_
                                      refine jq_then ?_
                                      refine jc_ret ?_
                                      refine jq_then_ret ?_
                                      refine jq_ret1 rfl rfl ?_
                                      exact fun _ hw => ⟨rfl, (hbc.ch.then hw.ch)⟩
                                      )
                                  · first
                                    | (exfalso; omega)
                                    | (
                                      refine jl_y rfl (by decide) rfl (y_pick_true rfl rfl) ?_
                                      refine jl_y rfl (by decide) rfl (y_move rfl) ?_
                                      refine jl_skip rfl (by decide) rfl ?_
                                      refine jl_y rfl (by decide) rfl (y_pick_false rfl rfl) ?_
                                      refine jl_y rfl (by decide) rfl (y_assign rfl) ?_
                                      refine jl_nil ?_
                                      refine jq_then ?_
                                      refine jc_ret ?_
                                      refine jq_then_ret ?_
                                      refine jq_ret1 rfl rfl ?_
                                      exact fun _ hw => ⟨rfl, (hbc.ch.then hw.ch)⟩
                                      )
                                  )
                              · first
                                | (exfalso; omega)
                                | (
                                  refine jl_y rfl (by decide) rfl (y_pick_false rfl rfl) ?_
                                  refine jl_nil ?_
                                  refine jq_then ?_
                                  refine jc_false rfl ?_
                                  refine jc_skip ?_
                                  refine jq_then ?_
                                  refine jc_seq ?_
                                  -- region 13
                                  obtain ⟨j, rfl⟩ : ∃ j : Nat, i = (j : Int) := ⟨i.toNat, by omega⟩
                                  have ho := @tok_in (cutS seed 300) m j (by omega)
                                  have ho2 := ho.2
                                  refine jc_region ?_
                                  refine jl_y rfl (by decide) rfl (y_move rfl) ?_
                                  refine jl_y rfl (by decide) rfl (y_move rfl) ?_
                                  refine jl_y rfl (by decide) rfl (y_move rfl) ?_
                                  refine jl_as (u := .int .i64 ((m : Nat) : Int)) (congrArg (Value.int .i64) (by omega)) ?_
                                  refine jl_y rfl (by decide) rfl (y_move rfl) ?_
                                  refine jl_pcall rfl (by decide) rfl (goes_func rfl) (fun w1 hw1 => pcall hw1 (rtoken_any (cutS seed 300) m j w1 (by omega) (by omega) (by omega))) ?_
                                  refine jl_y rfl (by decide) rfl (y_seql rfl rfl) ?_
                                  refine jl_as (u := .bool true) (congrArg (fun b => Value.bool b) (decide_eq_true (ho.1))) ?_
                                  refine jl_y rfl (by decide) rfl (y_move rfl) ?_
                                  refine jl_y rfl (by decide) rfl (y_move rfl) ?_
                                  refine jl_y rfl (by decide) rfl (y_eql rfl rfl) ?_
                                  refine jl_prop (fun h95 => ?_) (fun h95 => ?_)
                                  · first
                                    | (exfalso; omega)
                                    | (
                                      refine jl_y rfl (by decide) rfl (y_pick_true rfl rfl) ?_
                                      refine jl_y rfl (by decide) rfl (y_move rfl) ?_
                                      refine jl_y rfl (by decide) rfl (y_move rfl) ?_
                                      refine jl_pcall rfl (by decide) rfl (goes_func rfl) (fun w1 hw1 => pcall hw1 (next_any _ w1 (by rw [ho.1, tokS_size]; decide))) ?_
                                      refine jl_y rfl (by decide) rfl (y_move rfl) ?_
                                      refine jl_pcall rfl (by decide) rfl (goes_func rfl) (fun w1 hw1 => pcall hw1 (rnext_any _ w1 (by rw [ho.1, tokS_size]; decide))) ?_
                                      refine jl_y rfl (by decide) rfl (y_seql rfl rfl) ?_
                                      refine jl_as (u := .bool true) (congrArg (fun b => Value.bool b) (decide_eq_true (rfl))) ?_
                                      refine jl_y rfl (by decide) rfl (y_pick_true rfl rfl) ?_
                                      refine jl_y rfl (by decide) rfl (y_move rfl) ?_
                                      refine jl_pcall rfl (by decide) rfl (goes_func rfl) (fun w1 hw1 => pcall hw1 (fixed4_any w1)) ?_
                                      refine jl_y rfl (by decide) rfl (y_pick_true rfl rfl) ?_
                                      refine jl_y rfl (by decide) rfl (y_assign rfl) ?_
                                      refine jl_nil ?_
                                      refine jq_then ?_
                                      refine jc_ret ?_
                                      refine jq_ret1 rfl rfl ?_
                                      exact fun _ hw => ⟨rfl, (hbc.ch.then hw.ch)⟩
                                      )
                                  · first
                                    | (exfalso; omega)
                                    | (
                                      refine jl_y rfl (by decide) rfl (y_pick_true rfl rfl) ?_
                                      refine jl_y rfl (by decide) rfl (y_move rfl) ?_
                                      refine jl_skip rfl (by decide) rfl ?_
                                      refine jl_skip rfl (by decide) rfl ?_
                                      refine jl_skip rfl (by decide) rfl ?_
                                      refine jl_skip rfl (by decide) rfl ?_
                                      refine jl_skip rfl (by decide) rfl ?_
                                      refine jl_y rfl (by decide) rfl (y_pick_false rfl rfl) ?_
                                      refine jl_y rfl (by decide) rfl (y_move rfl) ?_
                                      refine jl_skip rfl (by decide) rfl ?_
                                      refine jl_y rfl (by decide) rfl (y_pick_false rfl rfl) ?_
                                      refine jl_y rfl (by decide) rfl (y_assign rfl) ?_
                                      refine jl_nil ?_
                                      refine jq_then ?_
                                      refine jc_ret ?_
                                      refine jq_ret1 rfl rfl ?_
                                      exact fun _ hw => ⟨rfl, (hbc.ch.then hw.ch)⟩
                                      )
                                  )
                              )
                          )
                      )
                  )
              )
          )
      )
  · first
    | (exfalso; omega)
    | (
      refine jl_y rfl (by decide) rfl (y_move rfl) ?_
      refine jl_skip rfl (by decide) rfl ?_
      refine jl_skip rfl (by decide) rfl ?_
      refine jl_y rfl (by decide) rfl (y_pick_false rfl rfl) ?_
      refine jl_nil ?_
      refine jq_then ?_
      refine jc_false rfl ?_
      refine jc_skip ?_
      refine jq_then ?_
      refine jc_seq ?_
      -- region 5
      refine jc_region ?_
      refine jl_y rfl (by decide) rfl (y_move rfl) ?_
      refine jl_y rfl (by decide) rfl (y_move rfl) ?_
      refine jl_as (u := .int .i64 ((m : Nat) : Int)) (congrArg (Value.int .i64) (by omega)) ?_
      refine jl_kcall rfl (by decide) rfl (goes_func rfl) (fun w1 hw1 => new_ok ((cutS seed 300)) (m) w1 (by omega) (by omega) (by omega)) (fun bc wc hbc hcc => ?_)
      refine jl_y rfl (by decide) rfl (y_move rfl) ?_
      refine jl_y rfl (by decide) rfl (y_extract rfl rfl) ?_
      refine jl_y rfl (by decide) rfl (y_extract rfl rfl) ?_
      refine jl_y rfl (by decide) rfl (y_assign rfl) ?_
      refine jl_y rfl (by decide) rfl (y_assign rfl) ?_
      refine jl_nil ?_
      refine jq_then ?_
      refine jc_seq ?_
      refine jc_seq ?_
      -- region 6
      refine jc_region ?_
      refine jl_y rfl (by decide) rfl (y_move rfl) ?_
      refine jl_as (u := .int .i64 ((m : Nat) : Int)) (congrArg (Value.int .i64) (by omega)) ?_
      refine jl_y rfl (by decide) rfl (y_lss rfl rfl) ?_
      refine jl_prop (fun h31 => ?_) (fun h31 => ?_)
      · first
        | (exfalso; omega)
        | (
          refine jl_y rfl (by decide) rfl (y_move rfl) ?_
          refine jl_skip rfl (by decide) rfl ?_
          refine jl_skip rfl (by decide) rfl ?_
          refine jl_y rfl (by decide) rfl (y_pick_true rfl rfl) ?_
          refine jl_nil ?_
          refine jq_then ?_
          refine jc_true rfl ?_
          refine jc_seq ?_
          -- region 7
          refine jc_region ?_
          refine jl_y rfl (by decide) rfl (y_move rfl) ?_
          refine jl_y rfl (by decide) rfl (y_eql_nil rfl rfl) ?_
          refine jl_as (u := .bool false) rfl ?_
          refine jl_y rfl (by decide) rfl (y_move rfl) ?_
          refine jl_skip rfl (by decide) rfl ?_
          refine jl_skip rfl (by decide) rfl ?_
          refine jl_y rfl (by decide) rfl (y_pick_false rfl rfl) ?_
          refine jl_y rfl (by decide) rfl (y_move rfl) ?_
          refine jl_skip rfl (by decide) rfl ?_
          refine jl_y rfl (by decide) rfl (y_pick_false rfl rfl) ?_
          refine jl_y rfl (by decide) rfl (y_assign rfl) ?_
          refine jl_nil ?_
          refine jq_then ?_
          refine jc_ret ?_
          refine jq_then_ret ?_
          refine jq_ret1 rfl rfl ?_
          exact fun _ hw => ⟨rfl, (hbc.ch.then hw.ch)⟩
          )
      · first
        | (exfalso; omega)
        | (
          refine jl_y rfl (by decide) rfl (y_move rfl) ?_
          refine jl_y rfl (by decide) rfl (y_move rfl) ?_
          refine jl_as (u := .int .i64 ((m : Nat) : Int)) (congrArg (Value.int .i64) (by omega)) ?_
          refine jl_y rfl (by decide) rfl (y_gtr rfl rfl) ?_
          refine jl_prop (fun h34 => ?_) (fun h34 => ?_)
          · first
            | (exfalso; omega)
            | (
              refine jl_y rfl (by decide) rfl (y_pick_false rfl rfl) ?_
              refine jl_nil ?_
              refine jq_then ?_
              refine jc_true rfl ?_
              refine jc_seq ?_
              -- region 7
              refine jc_region ?_
              refine jl_y rfl (by decide) rfl (y_move rfl) ?_
              refine jl_y rfl (by decide) rfl (y_eql_nil rfl rfl) ?_
              refine jl_as (u := .bool false) rfl ?_
              refine jl_y rfl (by decide) rfl (y_move rfl) ?_
              refine jl_skip rfl (by decide) rfl ?_
              refine jl_skip rfl (by decide) rfl ?_
              refine jl_y rfl (by decide) rfl (y_pick_false rfl rfl) ?_
              refine jl_y rfl (by decide) rfl (y_move rfl) ?_
              refine jl_skip rfl (by decide) rfl ?_
              refine jl_y rfl (by decide) rfl (y_pick_false rfl rfl) ?_
              refine jl_y rfl (by decide) rfl (y_assign rfl) ?_
              refine jl_nil ?_
              refine jq_then ?_
              refine jc_ret ?_
              refine jq_then_ret ?_
              refine jq_ret1 rfl rfl ?_
              exact fun _ hw => ⟨rfl, (hbc.ch.then hw.ch)⟩
              )
          · first
            | (exfalso; omega)
            | (
              refine jl_y rfl (by decide) rfl (y_pick_false rfl rfl) ?_
              refine jl_nil ?_
              refine jq_then ?_
              refine jc_false rfl ?_
              refine jc_skip ?_
              refine jq_then ?_
              refine jc_seq ?_
              refine jc_seq ?_
              -- region 8
              refine jc_region ?_
              refine jl_y rfl (by decide) rfl (y_move rfl) ?_
              refine jl_y rfl (by decide) rfl (y_eql_nil rfl rfl) ?_
              refine jl_as (u := .bool false) rfl ?_
              refine jl_y rfl (by decide) rfl (y_move rfl) ?_
              refine jl_y rfl (by decide) rfl (y_move rfl) ?_
              refine jl_y rfl (by decide) rfl (y_neq rfl rfl) ?_
              refine jl_prop (fun h49 => ?_) (fun h49 => ?_)
              · first
                | (exfalso; omega)
                | (
                  refine jl_y rfl (by decide) rfl (y_pick_false rfl rfl) ?_
                  refine jl_y rfl (by decide) rfl (y_move rfl) ?_
                  refine jl_skip rfl (by decide) rfl ?_
                  refine jl_skip rfl (by decide) rfl ?_
                  refine jl_skip rfl (by decide) rfl ?_
                  refine jl_skip rfl (by decide) rfl ?_
                  refine jl_y rfl (by decide) rfl (y_pick_true rfl rfl) ?_
                  refine jl_y rfl (by decide) rfl (y_move rfl) ?_
                  refine jl_skip rfl (by decide) rfl ?_
                  refine jl_skip rfl (by decide) rfl ?_
                  refine jl_skip rfl (by decide) rfl ?_
                  refine jl_skip rfl (by decide) rfl ?_
                  refine jl_skip rfl (by decide) rfl ?_
                  refine jl_skip rfl (by decide) rfl ?_
                  refine jl_y rfl (by decide) rfl (y_pick_true rfl rfl) ?_
                  refine jl_nil ?_
                  refine jq_then ?_
                  refine jc_true rfl ?_
                  refine jc_seq ?_
                  -- region 9
                  refine jc_region ?_
                  refine jl_y rfl (by decide) rfl (y_assign rfl) ?_
                  refine jl_nil ?_
                  refine jq_then ?_
                  refine jc_ret ?_
                  refine jq_then_ret ?_
                  refine jq_ret1 rfl rfl ?_
                  exact fun _ hw => ⟨rfl, (hbc.ch.then hw.ch)⟩
                  )
              · first
                | (exfalso; omega)
                | (
                  refine jl_y rfl (by decide) rfl (y_pick_false rfl rfl) ?_
                  refine jl_y rfl (by decide) rfl (y_move rfl) ?_
                  refine jl_y rfl (by decide) rfl (y_move rfl) ?_
                  refine jl_pcall rfl (by decide) rfl (goes_func rfl) (fun w1 hw1 => pcall hw1 (len_any _ _ _ w1 (hcc.keep hw1) (by omega))) ?_
                  refine jl_y rfl (by decide) rfl (y_move rfl) ?_
                  refine jl_as (u := .int .i64 ((m : Nat) : Int)) (congrArg (Value.int .i64) (by omega)) ?_
                  refine jl_y rfl (by decide) rfl (y_neq rfl rfl) ?_
                  refine jl_prop (fun h55 => ?_) (fun h55 => ?_)
                  · first
                    | (exfalso; omega)
                    | (
                      refine jl_y rfl (by decide) rfl (y_pick_false rfl rfl) ?_
                      refine jl_y rfl (by decide) rfl (y_move rfl) ?_
                      refine jl_skip rfl (by decide) rfl ?_
                      refine jl_skip rfl (by decide) rfl ?_
                      refine jl_skip rfl (by decide) rfl ?_
                      refine jl_skip rfl (by decide) rfl ?_
                      refine jl_skip rfl (by decide) rfl ?_
                      refine jl_skip rfl (by decide) rfl ?_
                      refine jl_y rfl (by decide) rfl (y_pick_true rfl rfl) ?_
                      refine jl_nil ?_
                      refine jq_then ?_
                      refine jc_true rfl ?_
                      refine jc_seq ?_
                      -- region 9
                      refine jc_region ?_
                      refine jl_y rfl (by decide) rfl (y_assign rfl) ?_
                      refine jl_nil ?_
                      refine jq_then ?_
                      refine jc_ret ?_
                      refine jq_then_ret ?_
                      refine jq_ret1 rfl rfl ?_
                      exact fun _ hw => ⟨rfl, (hbc.ch.then hw.ch)⟩
                      )
                  · first
                    | (exfalso; omega)
                    | (
                      refine jl_y rfl (by decide) rfl (y_pick_false rfl rfl) ?_
                      refine jl_y rfl (by decide) rfl (y_move rfl) ?_
                      refine jl_y rfl (by decide) rfl (y_move rfl) ?_
                      refine jl_pcall rfl (by decide) rfl (goes_func rfl) (fun w1 hw1 => pcall hw1 (anchor_any _ _ _ w1 (hcc.keep hw1))) ?_
                      refine jl_y rfl (by decide) rfl (y_move rfl) ?_
                      refine jl_y rfl (by decide) rfl (y_move rfl) ?_
                      refine jl_as (u := .int .i64 ((m : Nat) : Int)) (congrArg (Value.int .i64) (by omega)) ?_
                      refine jl_pcall rfl (by decide) rfl (goes_func rfl) (fun w1 hw1 => pcall hw1 (rtoken_any (cutS seed 300) m 0 w1 (by omega) (by omega) (by omega))) ?_
                      refine jl_y rfl (by decide) rfl (y_sneq rfl rfl) ?_
                      refine jl_as (u := .bool false) (congrArg (fun b => Value.bool (!b)) (decide_eq_true (rfl))) ?_
                      refine jl_y rfl (by decide) rfl (y_pick_false rfl rfl) ?_
                      refine jl_nil ?_
                      refine jq_then ?_
                      refine jc_false rfl ?_
                      refine jc_skip ?_
                      refine jq_then ?_
                      refine jc_seq ?_
                      -- region 10
                      refine jc_region ?_
                      refine jl_y rfl (by decide) rfl (y_move rfl) ?_
                      refine jl_y rfl (by decide) rfl (y_move rfl) ?_
                      refine jl_pcall rfl (by decide) rfl (goes_func rfl) (fun w1 hw1 => pcall hw1 (token_any _ _ _ w1 (hcc.keep hw1) _)) ?_
                      refine jl_y rfl (by decide) rfl (y_move rfl) ?_
                      refine jl_y rfl (by decide) rfl (y_extract rfl rfl) ?_
                      refine jl_y rfl (by decide) rfl (y_extract rfl rfl) ?_
                      refine jl_y rfl (by decide) rfl (y_assign rfl) ?_
                      refine jl_y rfl (by decide) rfl (y_assign rfl) ?_
                      refine jl_nil ?_
                      refine jq_then ?_
                      refine jc_seq ?_
                      refine jc_seq ?_
                      -- region 11
                      refine jc_region ?_
                      refine jl_y rfl (by decide) rfl (y_move rfl) ?_
                      refine jl_y rfl (by decide) rfl (y_lss rfl rfl) ?_
                      refine jl_prop (fun h72 => ?_) (fun h72 => ?_)
                      · first
                        | (exfalso; omega)
                        | (
                          refine jl_y rfl (by decide) rfl (y_move rfl) ?_
                          refine jl_skip rfl (by decide) rfl ?_
                          refine jl_skip rfl (by decide) rfl ?_
                          refine jl_skip rfl (by decide) rfl ?_
                          refine jl_y rfl (by decide) rfl (y_pick_true rfl rfl) ?_
                          refine jl_nil ?_
                          refine jq_then ?_
                          refine jc_true rfl ?_
                          refine jc_seq ?_
                          -- region 12
                          have ho := @tok_out (cutS seed 300) m i (by omega)
                          have ho2 := ho.2
                          refine jc_region ?_
                          refine jl_y rfl (by decide) rfl (y_move rfl) ?_
                          refine jl_y rfl (by decide) rfl (y_seql rfl rfl) ?_
                          refine jl_as (u := .bool true) (congrArg (fun b => Value.bool b) (decide_eq_true (ho.1))) ?_
                          refine jl_y rfl (by decide) rfl (y_move rfl) ?_
                          refine jl_y rfl (by decide) rfl (y_move rfl) ?_
                          refine jl_y rfl (by decide) rfl (y_eql rfl rfl) ?_
                          refine jl_prop (fun h82 => ?_) (fun h82 => ?_)
                          · first
                            | (exfalso; omega)
                            | (
                              refine jl_y rfl (by decide) rfl (y_pick_true rfl rfl) ?_
                              refine jl_y rfl (by decide) rfl (y_move rfl) ?_
                              refine jl_pcall rfl (by decide) rfl (goes_func rfl) (fun w1 hw1 => pcall hw1 (fixed4_any w1)) ?_
                              refine jl_y rfl (by decide) rfl (y_pick_true rfl rfl) ?_
                              refine jl_y rfl (by decide) rfl (y_assign rfl) ?_
                              refine jl_nil ?_
                              refine jq_then ?_
                              refine jc_ret ?_
                              refine jq_then_ret ?_
                              refine jq_ret1 rfl rfl ?_
                              exact fun _ hw => ⟨rfl, (hbc.ch.then hw.ch)⟩
                              )
                          · first
                            | (exfalso; omega)
                            | (
                              refine jl_y rfl (by decide) rfl (y_pick_true rfl rfl) ?_
                              refine jl_y rfl (by decide) rfl (y_move rfl) ?_
                              refine jl_skip rfl (by decide) rfl ?_
                              refine jl_y rfl (by decide) rfl (y_pick_false rfl rfl) ?_
                              refine jl_y rfl (by decide) rfl (y_assign rfl) ?_
                              refine jl_nil ?_
                              refine jq_then ?_
                              refine jc_ret ?_
                              refine jq_then_ret ?_
                              refine jq_ret1 rfl rfl ?_
                              exact fun _ hw => ⟨rfl, (hbc.ch.then hw.ch)⟩
                              )
                          )
                      · first
                        | (exfalso; omega)
                        | (
                          refine jl_y rfl (by decide) rfl (y_move rfl) ?_
                          refine jl_y rfl (by decide) rfl (y_move rfl) ?_
                          refine jl_y rfl (by decide) rfl (y_move rfl) ?_
                          refine jl_as (u := .int .i64 ((m : Nat) : Int)) (congrArg (Value.int .i64) (by omega)) ?_
                          refine jl_y rfl (by decide) rfl (y_gtr rfl rfl) ?_
                          refine jl_prop (fun h76 => ?_) (fun h76 => ?_)
                          · first
                            | (exfalso; omega)
                            | (
                              refine jl_y rfl (by decide) rfl (y_pick_false rfl rfl) ?_
                              refine jl_nil ?_
                              refine jq_then ?_
                              refine jc_true rfl ?_
                              refine jc_seq ?_
                              -- region 12
                              have ho := @tok_out (cutS seed 300) m i (by omega)
                              have ho2 := ho.2
                              refine jc_region ?_
                              refine jl_y rfl (by decide) rfl (y_move rfl) ?_
                              refine jl_y rfl (by decide) rfl (y_seql rfl rfl) ?_
                              refine jl_as (u := .bool true) (congrArg (fun b => Value.bool b) (decide_eq_true (ho.1))) ?_
                              refine jl_y rfl (by decide) rfl (y_move rfl) ?_
                              refine jl_y rfl (by decide) rfl (y_move rfl) ?_
                              refine jl_y rfl (by decide) rfl (y_eql rfl rfl) ?_
                              refine jl_prop (fun h82 => ?_) (fun h82 => ?_)
                              · first
                                | (exfalso; omega)
                                | (
                                  refine jl_y rfl (by decide) rfl (y_pick_true rfl rfl) ?_
                                  refine jl_y rfl (by decide) rfl (y_move rfl) ?_
                                  refine jl_pcall rfl (by decide) rfl (goes_func rfl) (fun w1 hw1 => pcall hw1 (fixed4_any w1)) ?_
                                  refine jl_y rfl (by decide) rfl (y_pick_true rfl rfl) ?_
                                  refine jl_y rfl (by decide) rfl (y_assign rfl) ?_
                                  refine jl_nil ?_
                                  refine jq_then ?_
                                  refine jc_ret ?_
                                  refine jq_then_ret ?_
                                  refine jq_ret1 rfl rfl ?_
                                  exact fun _ hw => ⟨rfl, (hbc.ch.then hw.ch)⟩
                                  )
                              · first
                                | (exfalso; omega)
                                | (
                                  refine jl_y rfl (by decide) rfl (y_pick_true rfl rfl) ?_
                                  refine jl_y rfl (by decide) rfl (y_move rfl) ?_
                                  refine jl_skip rfl (by decide) rfl ?_
                                  refine jl_y rfl (by decide) rfl (y_pick_false rfl rfl) ?_
                                  refine jl_y rfl (by decide) rfl (y_assign rfl) ?_
                                  refine jl_nil ?_
                                  refine jq_then ?_
                                  refine jc_ret ?_
                                  refine jq_then_ret ?_
                                  refine jq_ret1 rfl rfl ?_
                                  exact fun _ hw => ⟨rfl, (hbc.ch.then hw.ch)⟩
                                  )
                              )
                          · first
                            | (exfalso; omega)
                            | (
                              refine jl_y rfl (by decide) rfl (y_pick_false rfl rfl) ?_
                              refine jl_nil ?_
                              refine jq_then ?_
                              refine jc_false rfl ?_
                              refine jc_skip ?_
                              refine jq_then ?_
                              refine jc_seq ?_
                              -- region 13
                              obtain ⟨j, rfl⟩ : ∃ j : Nat, i = (j : Int) := ⟨i.toNat, by omega⟩
                              have ho := @tok_in (cutS seed 300) m j (by omega)
                              have ho2 := ho.2
                              refine jc_region ?_
                              refine jl_y rfl (by decide) rfl (y_move rfl) ?_
                              refine jl_y rfl (by decide) rfl (y_move rfl) ?_
                              refine jl_y rfl (by decide) rfl (y_move rfl) ?_
                              refine jl_as (u := .int .i64 ((m : Nat) : Int)) (congrArg (Value.int .i64) (by omega)) ?_
                              refine jl_y rfl (by decide) rfl (y_move rfl) ?_
                              refine jl_pcall rfl (by decide) rfl (goes_func rfl) (fun w1 hw1 => pcall hw1 (rtoken_any (cutS seed 300) m j w1 (by omega) (by omega) (by omega))) ?_
                              refine jl_y rfl (by decide) rfl (y_seql rfl rfl) ?_
                              refine jl_as (u := .bool true) (congrArg (fun b => Value.bool b) (decide_eq_true (ho.1))) ?_
                              refine jl_y rfl (by decide) rfl (y_move rfl) ?_
                              refine jl_y rfl (by decide) rfl (y_move rfl) ?_
                              refine jl_y rfl (by decide) rfl (y_eql rfl rfl) ?_
                              refine jl_prop (fun h95 => ?_) (fun h95 => ?_)
                              · first
                                | (exfalso; omega)
                                | (
                                  refine jl_y rfl (by decide) rfl (y_pick_true rfl rfl) ?_
                                  refine jl_y rfl (by decide) rfl (y_move rfl) ?_
                                  refine jl_y rfl (by decide) rfl (y_move rfl) ?_
                                  refine jl_pcall rfl (by decide) rfl (goes_func rfl) (fun w1 hw1 => pcall hw1 (next_any _ w1 (by rw [ho.1, tokS_size]; decide))) ?_
                                  refine jl_y rfl (by decide) rfl (y_move rfl) ?_
                                  refine jl_pcall rfl (by decide) rfl (goes_func rfl) (fun w1 hw1 => pcall hw1 (rnext_any _ w1 (by rw [ho.1, tokS_size]; decide))) ?_
                                  refine jl_y rfl (by decide) rfl (y_seql rfl rfl) ?_
                                  refine jl_as (u := .bool true) (congrArg (fun b => Value.bool b) (decide_eq_true (rfl))) ?_
                                  refine jl_y rfl (by decide) rfl (y_pick_true rfl rfl) ?_
                                  refine jl_y rfl (by decide) rfl (y_move rfl) ?_
                                  refine jl_pcall rfl (by decide) rfl (goes_func rfl) (fun w1 hw1 => pcall hw1 (fixed4_any w1)) ?_
                                  refine jl_y rfl (by decide) rfl (y_pick_true rfl rfl) ?_
                                  refine jl_y rfl (by decide) rfl (y_assign rfl) ?_
                                  refine jl_nil ?_
                                  refine jq_then ?_
                                  refine jc_ret ?_
                                  refine jq_ret1 rfl rfl ?_
                                  exact fun _ hw => ⟨rfl, (hbc.ch.then hw.ch)⟩
                                  )
                              · first
                                | (exfalso; omega)
                                | (
                                  refine jl_y rfl (by decide) rfl (y_pick_true rfl rfl) ?_
                                  refine jl_y rfl (by decide) rfl (y_move rfl) ?_
                                  refine jl_skip rfl (by decide) rfl ?_
                                  refine jl_skip rfl (by decide) rfl ?_
                                  refine jl_skip rfl (by decide) rfl ?_
                                  refine jl_skip rfl (by decide) rfl ?_
                                  refine jl_skip rfl (by decide) rfl ?_
                                  refine jl_y rfl (by decide) rfl (y_pick_false rfl rfl) ?_
                                  refine jl_y rfl (by decide) rfl (y_move rfl) ?_
                                  refine jl_skip rfl (by decide) rfl ?_
                                  refine jl_y rfl (by decide) rfl (y_pick_false rfl rfl) ?_
                                  refine jl_y rfl (by decide) rfl (y_assign rfl) ?_
                                  refine jl_nil ?_
                                  refine jq_then ?_
                                  refine jc_ret ?_
                                  refine jq_ret1 rfl rfl ?_
                                  exact fun _ hw => ⟨rfl, (hbc.ch.then hw.ch)⟩
                                  )
                              )
                          )
                      )
                  )
              )
          )
      )

theorem paywordChains_bad (seed : ByteArray) (n i : Int) (w : World) (hn : fits .i64 n) (hi : fits .i64 i) (hv : ¬ (1 ≤ n ∧ n ≤ 4096)) :
    Calls Try.prog 3 #[.string seed, .int .i64 n, .int .i64 i] w fun e w' => e = .returned (.bool true) ∧ Ch [] w w' := by
  simp only [fits] at *
  refine calls_of (n := 107) (E := [(0, .string seed), (1, .int .i64 n), (2, .int .i64 i)]) (W := Hp w [] []) Try.func3 rfl rfl (Nat.le_of_ble_eq_true rfl) rfl (Hp.nil _ _) ?_
  refine jc_seq ?_
  -- region 0
  refine jc_region ?_
  refine jl_y rfl (by decide) rfl (y_assign rfl) ?_
  refine jl_nil ?_
  refine jq_then ?_
  refine jc_seq ?_
  -- region 1
  refine jc_region ?_
  refine jl_y rfl (by decide) rfl (y_move rfl) ?_
  refine jl_y rfl (by decide) rfl (y_move rfl) ?_
  refine jl_y rfl (by decide) rfl (y_len_str rfl) ?_
  refine jl_y rfl (by decide) rfl (y_min rfl rfl) ?_
  refine jl_y rfl (by decide) rfl (y_substr_hi rfl rfl (by omega) (by omega)) ?_
  refine jl_as (congrArg Value.string (cut_eq _ 300)) ?_
  refine jl_y rfl (by decide) rfl (y_assign rfl) ?_
  refine jl_nil ?_
  refine jq_then ?_
  refine jc_seq ?_
  -- region 2
  refine jc_region ?_
  refine jl_y rfl (by decide) rfl (y_move rfl) ?_
  refine jl_y rfl (by decide) rfl (y_assign rfl) ?_
  refine jl_nil ?_
  refine jq_then ?_
  refine jc_seq ?_
  refine jc_seq ?_
  -- region 3
  refine jc_region ?_
  refine jl_y rfl (by decide) rfl (y_move rfl) ?_
  refine jl_y rfl (by decide) rfl (y_gtr rfl rfl) ?_
  refine jl_prop (fun h19 => ?_) (fun h19 => ?_)
  · first
    | (exfalso; omega)
    | (
      refine jl_y rfl (by decide) rfl (y_move rfl) ?_
      refine jl_y rfl (by decide) rfl (y_move rfl) ?_
      refine jl_y rfl (by decide) rfl (y_leq rfl rfl) ?_
      refine jl_prop (fun h22 => ?_) (fun h22 => ?_)
      · first
        | (exfalso; omega)
        | (
          refine jl_y rfl (by decide) rfl (y_pick_true rfl rfl) ?_
          refine jl_nil ?_
          refine jq_then ?_
          refine jc_true rfl ?_
          -- region 4
          refine jc_region ?_
          refine jl_y rfl (by decide) rfl (y_assign rfl) ?_
          refine jl_nil ?_
          refine jq_then ?_
          refine jc_seq ?_
          -- region 5
          refine jc_region ?_
          refine jl_y rfl (by decide) rfl (y_move rfl) ?_
          refine jl_y rfl (by decide) rfl (y_move rfl) ?_
          refine jl_pcall rfl (by decide) rfl (goes_func rfl) (fun w1 hw1 => pcall hw1 (new_bad _ _ w1 (by omega))) ?_
          refine jl_y rfl (by decide) rfl (y_move rfl) ?_
          refine jl_y rfl (by decide) rfl (y_extract rfl rfl) ?_
          refine jl_y rfl (by decide) rfl (y_extract rfl rfl) ?_
          refine jl_y rfl (by decide) rfl (y_assign rfl) ?_
          refine jl_y rfl (by decide) rfl (y_assign rfl) ?_
          refine jl_nil ?_
          refine jq_then ?_
          refine jc_seq ?_
          refine jc_seq ?_
          -- region 6
          refine jc_region ?_
          refine jl_y rfl (by decide) rfl (y_move rfl) ?_
          refine jl_y rfl (by decide) rfl (y_lss rfl rfl) ?_
          refine jl_prop (fun h31 => ?_) (fun h31 => ?_)
          · first
            | (exfalso; omega)
            | (
              refine jl_y rfl (by decide) rfl (y_move rfl) ?_
              refine jl_skip rfl (by decide) rfl ?_
              refine jl_skip rfl (by decide) rfl ?_
              refine jl_y rfl (by decide) rfl (y_pick_true rfl rfl) ?_
              refine jl_nil ?_
              refine jq_then ?_
              refine jc_true rfl ?_
              refine jc_seq ?_
              -- region 7
              refine jc_region ?_
              refine jl_y rfl (by decide) rfl (y_move rfl) ?_
              refine jl_y rfl (by decide) rfl (y_eql_nil rfl rfl) ?_
              refine jl_as (u := .bool true) rfl ?_
              refine jl_y rfl (by decide) rfl (y_move rfl) ?_
              refine jl_y rfl (by decide) rfl (y_move rfl) ?_
              refine jl_y rfl (by decide) rfl (y_eql rfl rfl) ?_
              refine jl_prop (fun h40 => ?_) (fun h40 => ?_)
              · first
                | (exfalso; omega)
                | (
                  refine jl_y rfl (by decide) rfl (y_pick_true rfl rfl) ?_
                  refine jl_y rfl (by decide) rfl (y_move rfl) ?_
                  refine jl_pcall rfl (by decide) rfl (goes_func rfl) (fun w1 hw1 => pcall hw1 (fixed4_any w1)) ?_
                  refine jl_y rfl (by decide) rfl (y_pick_true rfl rfl) ?_
                  refine jl_y rfl (by decide) rfl (y_assign rfl) ?_
                  refine jl_nil ?_
                  refine jq_then ?_
                  refine jc_ret ?_
                  refine jq_then_ret ?_
                  refine jq_ret1 rfl rfl ?_
                  exact fun _ hw => ⟨rfl, hw.ch⟩
                  )
              · first
                | (exfalso; omega)
                | (
                  refine jl_y rfl (by decide) rfl (y_pick_true rfl rfl) ?_
                  refine jl_y rfl (by decide) rfl (y_move rfl) ?_
                  refine jl_skip rfl (by decide) rfl ?_
                  refine jl_y rfl (by decide) rfl (y_pick_false rfl rfl) ?_
                  refine jl_y rfl (by decide) rfl (y_assign rfl) ?_
                  refine jl_nil ?_
                  refine jq_then ?_
                  refine jc_ret ?_
                  refine jq_then_ret ?_
                  refine jq_ret1 rfl rfl ?_
                  exact fun _ hw => ⟨rfl, hw.ch⟩
                  )
              )
          · first
            | (exfalso; omega)
            | (
              refine jl_y rfl (by decide) rfl (y_move rfl) ?_
              refine jl_y rfl (by decide) rfl (y_move rfl) ?_
              refine jl_y rfl (by decide) rfl (y_gtr rfl rfl) ?_
              refine jl_prop (fun h34 => ?_) (fun h34 => ?_)
              · first
                | (exfalso; omega)
                | (
                  refine jl_y rfl (by decide) rfl (y_pick_false rfl rfl) ?_
                  refine jl_nil ?_
                  refine jq_then ?_
                  refine jc_true rfl ?_
                  refine jc_seq ?_
                  -- region 7
                  refine jc_region ?_
                  refine jl_y rfl (by decide) rfl (y_move rfl) ?_
                  refine jl_y rfl (by decide) rfl (y_eql_nil rfl rfl) ?_
                  refine jl_as (u := .bool true) rfl ?_
                  refine jl_y rfl (by decide) rfl (y_move rfl) ?_
                  refine jl_y rfl (by decide) rfl (y_move rfl) ?_
                  refine jl_y rfl (by decide) rfl (y_eql rfl rfl) ?_
                  refine jl_prop (fun h40 => ?_) (fun h40 => ?_)
                  · first
                    | (exfalso; omega)
                    | (
                      refine jl_y rfl (by decide) rfl (y_pick_true rfl rfl) ?_
                      refine jl_y rfl (by decide) rfl (y_move rfl) ?_
                      refine jl_pcall rfl (by decide) rfl (goes_func rfl) (fun w1 hw1 => pcall hw1 (fixed4_any w1)) ?_
                      refine jl_y rfl (by decide) rfl (y_pick_true rfl rfl) ?_
                      refine jl_y rfl (by decide) rfl (y_assign rfl) ?_
                      refine jl_nil ?_
                      refine jq_then ?_
                      refine jc_ret ?_
                      refine jq_then_ret ?_
                      refine jq_ret1 rfl rfl ?_
                      exact fun _ hw => ⟨rfl, hw.ch⟩
                      )
                  · first
                    | (exfalso; omega)
                    | (
                      refine jl_y rfl (by decide) rfl (y_pick_true rfl rfl) ?_
                      refine jl_y rfl (by decide) rfl (y_move rfl) ?_
                      refine jl_skip rfl (by decide) rfl ?_
                      refine jl_y rfl (by decide) rfl (y_pick_false rfl rfl) ?_
                      refine jl_y rfl (by decide) rfl (y_assign rfl) ?_
                      refine jl_nil ?_
                      refine jq_then ?_
                      refine jc_ret ?_
                      refine jq_then_ret ?_
                      refine jq_ret1 rfl rfl ?_
                      exact fun _ hw => ⟨rfl, hw.ch⟩
                      )
                  )
              · exfalso; omega
              )
          )
      · first
        | (exfalso; omega)
        | (
          refine jl_y rfl (by decide) rfl (y_pick_true rfl rfl) ?_
          refine jl_nil ?_
          refine jq_then ?_
          refine jc_false rfl ?_
          refine jc_skip ?_
          refine jq_then ?_
          refine jc_seq ?_
          -- region 5
          refine jc_region ?_
          refine jl_y rfl (by decide) rfl (y_move rfl) ?_
          refine jl_y rfl (by decide) rfl (y_move rfl) ?_
          refine jl_pcall rfl (by decide) rfl (goes_func rfl) (fun w1 hw1 => pcall hw1 (new_bad _ _ w1 (by omega))) ?_
          refine jl_y rfl (by decide) rfl (y_move rfl) ?_
          refine jl_y rfl (by decide) rfl (y_extract rfl rfl) ?_
          refine jl_y rfl (by decide) rfl (y_extract rfl rfl) ?_
          refine jl_y rfl (by decide) rfl (y_assign rfl) ?_
          refine jl_y rfl (by decide) rfl (y_assign rfl) ?_
          refine jl_nil ?_
          refine jq_then ?_
          refine jc_seq ?_
          refine jc_seq ?_
          -- region 6
          refine jc_region ?_
          refine jl_y rfl (by decide) rfl (y_move rfl) ?_
          refine jl_y rfl (by decide) rfl (y_lss rfl rfl) ?_
          refine jl_prop (fun h31 => ?_) (fun h31 => ?_)
          · first
            | (exfalso; omega)
            | (
              refine jl_y rfl (by decide) rfl (y_move rfl) ?_
              refine jl_skip rfl (by decide) rfl ?_
              refine jl_skip rfl (by decide) rfl ?_
              refine jl_y rfl (by decide) rfl (y_pick_true rfl rfl) ?_
              refine jl_nil ?_
              refine jq_then ?_
              refine jc_true rfl ?_
              refine jc_seq ?_
              -- region 7
              refine jc_region ?_
              refine jl_y rfl (by decide) rfl (y_move rfl) ?_
              refine jl_y rfl (by decide) rfl (y_eql_nil rfl rfl) ?_
              refine jl_as (u := .bool true) rfl ?_
              refine jl_y rfl (by decide) rfl (y_move rfl) ?_
              refine jl_y rfl (by decide) rfl (y_move rfl) ?_
              refine jl_y rfl (by decide) rfl (y_eql rfl rfl) ?_
              refine jl_prop (fun h40 => ?_) (fun h40 => ?_)
              · first
                | (exfalso; omega)
                | (
                  refine jl_y rfl (by decide) rfl (y_pick_true rfl rfl) ?_
                  refine jl_y rfl (by decide) rfl (y_move rfl) ?_
                  refine jl_pcall rfl (by decide) rfl (goes_func rfl) (fun w1 hw1 => pcall hw1 (fixed4_any w1)) ?_
                  refine jl_y rfl (by decide) rfl (y_pick_true rfl rfl) ?_
                  refine jl_y rfl (by decide) rfl (y_assign rfl) ?_
                  refine jl_nil ?_
                  refine jq_then ?_
                  refine jc_ret ?_
                  refine jq_then_ret ?_
                  refine jq_ret1 rfl rfl ?_
                  exact fun _ hw => ⟨rfl, hw.ch⟩
                  )
              · first
                | (exfalso; omega)
                | (
                  refine jl_y rfl (by decide) rfl (y_pick_true rfl rfl) ?_
                  refine jl_y rfl (by decide) rfl (y_move rfl) ?_
                  refine jl_skip rfl (by decide) rfl ?_
                  refine jl_y rfl (by decide) rfl (y_pick_false rfl rfl) ?_
                  refine jl_y rfl (by decide) rfl (y_assign rfl) ?_
                  refine jl_nil ?_
                  refine jq_then ?_
                  refine jc_ret ?_
                  refine jq_then_ret ?_
                  refine jq_ret1 rfl rfl ?_
                  exact fun _ hw => ⟨rfl, hw.ch⟩
                  )
              )
          · first
            | (exfalso; omega)
            | (
              refine jl_y rfl (by decide) rfl (y_move rfl) ?_
              refine jl_y rfl (by decide) rfl (y_move rfl) ?_
              refine jl_y rfl (by decide) rfl (y_gtr rfl rfl) ?_
              refine jl_prop (fun h34 => ?_) (fun h34 => ?_)
              · first
                | (exfalso; omega)
                | (
                  refine jl_y rfl (by decide) rfl (y_pick_false rfl rfl) ?_
                  refine jl_nil ?_
                  refine jq_then ?_
                  refine jc_true rfl ?_
                  refine jc_seq ?_
                  -- region 7
                  refine jc_region ?_
                  refine jl_y rfl (by decide) rfl (y_move rfl) ?_
                  refine jl_y rfl (by decide) rfl (y_eql_nil rfl rfl) ?_
                  refine jl_as (u := .bool true) rfl ?_
                  refine jl_y rfl (by decide) rfl (y_move rfl) ?_
                  refine jl_y rfl (by decide) rfl (y_move rfl) ?_
                  refine jl_y rfl (by decide) rfl (y_eql rfl rfl) ?_
                  refine jl_prop (fun h40 => ?_) (fun h40 => ?_)
                  · first
                    | (exfalso; omega)
                    | (
                      refine jl_y rfl (by decide) rfl (y_pick_true rfl rfl) ?_
                      refine jl_y rfl (by decide) rfl (y_move rfl) ?_
                      refine jl_pcall rfl (by decide) rfl (goes_func rfl) (fun w1 hw1 => pcall hw1 (fixed4_any w1)) ?_
                      refine jl_y rfl (by decide) rfl (y_pick_true rfl rfl) ?_
                      refine jl_y rfl (by decide) rfl (y_assign rfl) ?_
                      refine jl_nil ?_
                      refine jq_then ?_
                      refine jc_ret ?_
                      refine jq_then_ret ?_
                      refine jq_ret1 rfl rfl ?_
                      exact fun _ hw => ⟨rfl, hw.ch⟩
                      )
                  · first
                    | (exfalso; omega)
                    | (
                      refine jl_y rfl (by decide) rfl (y_pick_true rfl rfl) ?_
                      refine jl_y rfl (by decide) rfl (y_move rfl) ?_
                      refine jl_skip rfl (by decide) rfl ?_
                      refine jl_y rfl (by decide) rfl (y_pick_false rfl rfl) ?_
                      refine jl_y rfl (by decide) rfl (y_assign rfl) ?_
                      refine jl_nil ?_
                      refine jq_then ?_
                      refine jc_ret ?_
                      refine jq_then_ret ?_
                      refine jq_ret1 rfl rfl ?_
                      exact fun _ hw => ⟨rfl, hw.ch⟩
                      )
                  )
              · exfalso; omega
              )
          )
      )
  · first
    | (exfalso; omega)
    | (
      refine jl_y rfl (by decide) rfl (y_move rfl) ?_
      refine jl_skip rfl (by decide) rfl ?_
      refine jl_skip rfl (by decide) rfl ?_
      refine jl_y rfl (by decide) rfl (y_pick_false rfl rfl) ?_
      refine jl_nil ?_
      refine jq_then ?_
      refine jc_false rfl ?_
      refine jc_skip ?_
      refine jq_then ?_
      refine jc_seq ?_
      -- region 5
      refine jc_region ?_
      refine jl_y rfl (by decide) rfl (y_move rfl) ?_
      refine jl_y rfl (by decide) rfl (y_move rfl) ?_
      refine jl_pcall rfl (by decide) rfl (goes_func rfl) (fun w1 hw1 => pcall hw1 (new_bad _ _ w1 (by omega))) ?_
      refine jl_y rfl (by decide) rfl (y_move rfl) ?_
      refine jl_y rfl (by decide) rfl (y_extract rfl rfl) ?_
      refine jl_y rfl (by decide) rfl (y_extract rfl rfl) ?_
      refine jl_y rfl (by decide) rfl (y_assign rfl) ?_
      refine jl_y rfl (by decide) rfl (y_assign rfl) ?_
      refine jl_nil ?_
      refine jq_then ?_
      refine jc_seq ?_
      refine jc_seq ?_
      -- region 6
      refine jc_region ?_
      refine jl_y rfl (by decide) rfl (y_move rfl) ?_
      refine jl_y rfl (by decide) rfl (y_lss rfl rfl) ?_
      refine jl_prop (fun h31 => ?_) (fun h31 => ?_)
      · first
        | (exfalso; omega)
        | (
          refine jl_y rfl (by decide) rfl (y_move rfl) ?_
          refine jl_skip rfl (by decide) rfl ?_
          refine jl_skip rfl (by decide) rfl ?_
          refine jl_y rfl (by decide) rfl (y_pick_true rfl rfl) ?_
          refine jl_nil ?_
          refine jq_then ?_
          refine jc_true rfl ?_
          refine jc_seq ?_
          -- region 7
          refine jc_region ?_
          refine jl_y rfl (by decide) rfl (y_move rfl) ?_
          refine jl_y rfl (by decide) rfl (y_eql_nil rfl rfl) ?_
          refine jl_as (u := .bool true) rfl ?_
          refine jl_y rfl (by decide) rfl (y_move rfl) ?_
          refine jl_y rfl (by decide) rfl (y_move rfl) ?_
          refine jl_y rfl (by decide) rfl (y_eql rfl rfl) ?_
          refine jl_prop (fun h40 => ?_) (fun h40 => ?_)
          · first
            | (exfalso; omega)
            | (
              refine jl_y rfl (by decide) rfl (y_pick_true rfl rfl) ?_
              refine jl_y rfl (by decide) rfl (y_move rfl) ?_
              refine jl_pcall rfl (by decide) rfl (goes_func rfl) (fun w1 hw1 => pcall hw1 (fixed4_any w1)) ?_
              refine jl_y rfl (by decide) rfl (y_pick_true rfl rfl) ?_
              refine jl_y rfl (by decide) rfl (y_assign rfl) ?_
              refine jl_nil ?_
              refine jq_then ?_
              refine jc_ret ?_
              refine jq_then_ret ?_
              refine jq_ret1 rfl rfl ?_
              exact fun _ hw => ⟨rfl, hw.ch⟩
              )
          · first
            | (exfalso; omega)
            | (
              refine jl_y rfl (by decide) rfl (y_pick_true rfl rfl) ?_
              refine jl_y rfl (by decide) rfl (y_move rfl) ?_
              refine jl_skip rfl (by decide) rfl ?_
              refine jl_y rfl (by decide) rfl (y_pick_false rfl rfl) ?_
              refine jl_y rfl (by decide) rfl (y_assign rfl) ?_
              refine jl_nil ?_
              refine jq_then ?_
              refine jc_ret ?_
              refine jq_then_ret ?_
              refine jq_ret1 rfl rfl ?_
              exact fun _ hw => ⟨rfl, hw.ch⟩
              )
          )
      · first
        | (exfalso; omega)
        | (
          refine jl_y rfl (by decide) rfl (y_move rfl) ?_
          refine jl_y rfl (by decide) rfl (y_move rfl) ?_
          refine jl_y rfl (by decide) rfl (y_gtr rfl rfl) ?_
          refine jl_prop (fun h34 => ?_) (fun h34 => ?_)
          · first
            | (exfalso; omega)
            | (
              refine jl_y rfl (by decide) rfl (y_pick_false rfl rfl) ?_
              refine jl_nil ?_
              refine jq_then ?_
              refine jc_true rfl ?_
              refine jc_seq ?_
              -- region 7
              refine jc_region ?_
              refine jl_y rfl (by decide) rfl (y_move rfl) ?_
              refine jl_y rfl (by decide) rfl (y_eql_nil rfl rfl) ?_
              refine jl_as (u := .bool true) rfl ?_
              refine jl_y rfl (by decide) rfl (y_move rfl) ?_
              refine jl_y rfl (by decide) rfl (y_move rfl) ?_
              refine jl_y rfl (by decide) rfl (y_eql rfl rfl) ?_
              refine jl_prop (fun h40 => ?_) (fun h40 => ?_)
              · first
                | (exfalso; omega)
                | (
                  refine jl_y rfl (by decide) rfl (y_pick_true rfl rfl) ?_
                  refine jl_y rfl (by decide) rfl (y_move rfl) ?_
                  refine jl_pcall rfl (by decide) rfl (goes_func rfl) (fun w1 hw1 => pcall hw1 (fixed4_any w1)) ?_
                  refine jl_y rfl (by decide) rfl (y_pick_true rfl rfl) ?_
                  refine jl_y rfl (by decide) rfl (y_assign rfl) ?_
                  refine jl_nil ?_
                  refine jq_then ?_
                  refine jc_ret ?_
                  refine jq_then_ret ?_
                  refine jq_ret1 rfl rfl ?_
                  exact fun _ hw => ⟨rfl, hw.ch⟩
                  )
              · first
                | (exfalso; omega)
                | (
                  refine jl_y rfl (by decide) rfl (y_pick_true rfl rfl) ?_
                  refine jl_y rfl (by decide) rfl (y_move rfl) ?_
                  refine jl_skip rfl (by decide) rfl ?_
                  refine jl_y rfl (by decide) rfl (y_pick_false rfl rfl) ?_
                  refine jl_y rfl (by decide) rfl (y_assign rfl) ?_
                  refine jl_nil ?_
                  refine jq_then ?_
                  refine jc_ret ?_
                  refine jq_then_ret ?_
                  refine jq_ret1 rfl rfl ?_
                  exact fun _ hw => ⟨rfl, hw.ch⟩
                  )
              )
          · exfalso; omega
          )
      )

theorem paywordChains_any (seed : ByteArray) (n i : Int) (w : World) (hn : fits .i64 n) (hi : fits .i64 i) : Calls Try.prog 3 #[.string seed, .int .i64 n, .int .i64 i] w fun e w' => e = .returned (.bool true) ∧ Ch [] w w' := by
  by_cases hv : 1 ≤ n ∧ n ≤ 4096
  · exact paywordChains_ok seed n i w hn hi hv
  · exact paywordChains_bad seed n i w hn hi hv
theorem paywordCounts_any (anchor token : ByteArray) (m0 m1 : Int) (w : World) (h0 : fits .i64 m0) (h1 : fits .i64 m1) :
    Calls Try.prog 4 #[.string anchor, .string token, .agg #[.int .i64 m0, .int .i64 m1]] w fun e w' => e = .returned (.bool true) ∧ Ch [] w w' := by
  simp only [fits] at *
  refine calls_of (n := 105) (E := [(0, .string anchor), (1, .string token), (2, .agg #[.int .i64 m0, .int .i64 m1])]) (W := Hp w [] []) Try.func4 rfl rfl (Nat.le_of_ble_eq_true rfl) rfl (Hp.nil _ _) ?_
  refine jc_seq ?_
  -- region 0
  refine jc_region ?_
  refine jl_m rfl (by decide) rfl (m_box rfl rfl) (fun b5 => ?_)
  refine jl_y rfl (by decide) rfl (y_assign rfl) ?_
  refine jl_nil ?_
  refine jq_then ?_
  refine jc_seq ?_
  -- region 1
  refine jc_region ?_
  refine jl_y rfl (by decide) rfl (y_move rfl) ?_
  refine jl_y rfl (by decide) rfl (y_move rfl) ?_
  refine jl_y rfl (by decide) rfl (y_len_str rfl) ?_
  refine jl_y rfl (by decide) rfl (y_min rfl rfl) ?_
  refine jl_y rfl (by decide) rfl (y_substr_hi rfl rfl (by omega) (by omega)) ?_
  refine jl_as (congrArg Value.string (cut_eq _ 40)) ?_
  refine jl_y rfl (by decide) rfl (y_assign rfl) ?_
  refine jl_nil ?_
  refine jq_then ?_
  refine jc_seq ?_
  -- region 2
  refine jc_region ?_
  refine jl_y rfl (by decide) rfl (y_move rfl) ?_
  refine jl_y rfl (by decide) rfl (y_move rfl) ?_
  refine jl_y rfl (by decide) rfl (y_len_str rfl) ?_
  refine jl_y rfl (by decide) rfl (y_min rfl rfl) ?_
  refine jl_y rfl (by decide) rfl (y_substr_hi rfl rfl (by omega) (by omega)) ?_
  refine jl_as (congrArg Value.string (cut_eq _ 40)) ?_
  refine jl_y rfl (by decide) rfl (y_assign rfl) ?_
  refine jl_nil ?_
  refine jq_then ?_
  refine jc_seq ?_
  -- region 3
  refine jc_draw (by kernel_rfl) (fun _ h => h.drew) ?_
  refine ju_y rfl (by decide) rfl (y_indexAddr_arr rfl rfl (by omega) (by omega) (by simp only [Int.toNat_natCast, Int.reduceSub, Int.reduceAdd, Int.reduceToNat, Nat.reduceMul, Nat.reduceAdd, Nat.zero_add, Nat.mul_one, Nat.zero_mul, Nat.add_zero]; exact rfl)) ?_
  first | refine ju_y rfl (by decide) rfl (y_load rfl (by first | exact mem0 | exact mem1 | exact mem2 | exact mem3 | exact mem4 | exact mem5) rfl) ?_ | refine ju_y rfl (by decide) rfl (y_load_row rfl (by first | exact mem0 | exact mem1 | exact mem2 | exact mem3 | exact mem4 | exact mem5) rfl) ?_ | refine ju_y rfl (by decide) rfl (y_load_old rfl (by assumption) (by simp)) ?_
  refine ju_y rfl (by decide) rfl (y_indexAddr_arr rfl rfl (by omega) (by omega) (by simp only [Int.toNat_natCast, Int.reduceSub, Int.reduceAdd, Int.reduceToNat, Nat.reduceMul, Nat.reduceAdd, Nat.zero_add, Nat.mul_one, Nat.zero_mul, Nat.add_zero]; exact rfl)) ?_
  first | refine ju_y rfl (by decide) rfl (y_load rfl (by first | exact mem0 | exact mem1 | exact mem2 | exact mem3 | exact mem4 | exact mem5) rfl) ?_ | refine ju_y rfl (by decide) rfl (y_load_row rfl (by first | exact mem0 | exact mem1 | exact mem2 | exact mem3 | exact mem4 | exact mem5) rfl) ?_ | refine ju_y rfl (by decide) rfl (y_load_old rfl (by assumption) (by simp)) ?_
  refine ju_y rfl (by decide) rfl (y_assign rfl) ?_
  refine ju_y rfl (by decide) rfl (y_assign rfl) ?_
  refine ju_nil ?_
  refine jq_then ?_
  refine jc_seq ?_
  refine jc_seq ?_
  -- region 4
  refine jc_region ?_
  refine jl_y rfl (by decide) rfl (y_move rfl) ?_
  refine jl_y rfl (by decide) rfl (y_gtr rfl rfl) ?_
  refine jl_prop (fun h32 => ?_) (fun h32 => ?_)
  · first
    | (exfalso; omega)
    | (
      refine jl_y rfl (by decide) rfl (y_move rfl) ?_
      refine jl_y rfl (by decide) rfl (y_move rfl) ?_
      refine jl_y rfl (by decide) rfl (y_leq rfl rfl) ?_
      refine jl_prop (fun h35 => ?_) (fun h35 => ?_)
      · first
        | (exfalso; omega)
        | (
          refine jl_y rfl (by decide) rfl (y_pick_true rfl rfl) ?_
          refine jl_nil ?_
          refine jq_then ?_
          refine jc_true rfl ?_
          -- region 5
          refine jc_region ?_
          refine jl_y rfl (by decide) rfl (y_assign rfl) ?_
          refine jl_nil ?_
          refine jq_then ?_
          refine jc_seq ?_
          refine jc_seq ?_
          -- region 6
          refine jc_region ?_
          refine jl_y rfl (by decide) rfl (y_move rfl) ?_
          refine jl_y rfl (by decide) rfl (y_gtr rfl rfl) ?_
          refine jl_prop (fun h38 => ?_) (fun h38 => ?_)
          · first
            | (exfalso; omega)
            | (
              refine jl_y rfl (by decide) rfl (y_move rfl) ?_
              refine jl_y rfl (by decide) rfl (y_move rfl) ?_
              refine jl_y rfl (by decide) rfl (y_leq rfl rfl) ?_
              refine jl_prop (fun h41 => ?_) (fun h41 => ?_)
              · first
                | (exfalso; omega)
                | (
                  refine jl_y rfl (by decide) rfl (y_pick_true rfl rfl) ?_
                  refine jl_nil ?_
                  refine jq_then ?_
                  refine jc_true rfl ?_
                  -- region 7
                  refine jc_region ?_
                  refine jl_y rfl (by decide) rfl (y_assign rfl) ?_
                  refine jl_nil ?_
                  refine jq_then ?_
                  refine jc_seq ?_
                  -- region 8
                  refine jc_region ?_
                  refine jl_y rfl (by decide) rfl (y_move rfl) ?_
                  refine jl_y rfl (by decide) rfl (y_move rfl) ?_
                  refine jl_y rfl (by decide) rfl (y_move rfl) ?_
                  refine jl_pcall rfl (by decide) rfl (goes_func rfl) (fun w1 hw1 => pcall hw1 (count_any _ _ _ w1 (by simp only [fits] at *; omega))) ?_
                  refine jl_y rfl (by decide) rfl (y_move rfl) ?_
                  refine jl_y rfl (by decide) rfl (y_extract rfl rfl) ?_
                  refine jl_y rfl (by decide) rfl (y_extract rfl rfl) ?_
                  refine jl_y rfl (by decide) rfl (y_assign rfl) ?_
                  refine jl_y rfl (by decide) rfl (y_assign rfl) ?_
                  refine jl_nil ?_
                  refine jq_then ?_
                  refine jc_seq ?_
                  -- region 9
                  refine jc_region ?_
                  refine jl_y rfl (by decide) rfl (y_move rfl) ?_
                  refine jl_y rfl (by decide) rfl (y_move rfl) ?_
                  refine jl_y rfl (by decide) rfl (y_move rfl) ?_
                  refine jl_pcall rfl (by decide) rfl (goes_func rfl) (fun w1 hw1 => pcall hw1 (rcount_any _ _ _ w1 (by simp only [fits] at *; omega))) ?_
                  refine jl_y rfl (by decide) rfl (y_move rfl) ?_
                  refine jl_y rfl (by decide) rfl (y_extract rfl rfl) ?_
                  refine jl_y rfl (by decide) rfl (y_extract rfl rfl) ?_
                  refine jl_y rfl (by decide) rfl (y_assign rfl) ?_
                  refine jl_y rfl (by decide) rfl (y_assign rfl) ?_
                  refine jl_nil ?_
                  refine jq_then ?_
                  refine jc_seq ?_
                  -- region 10
                  refine jc_region ?_
                  refine jl_y rfl (by decide) rfl (y_indexAddr_arr rfl rfl (by omega) (by omega) (by simp only [Int.toNat_natCast, Int.reduceSub, Int.reduceAdd, Int.reduceToNat, Nat.reduceMul, Nat.reduceAdd, Nat.zero_add, Nat.mul_one, Nat.zero_mul, Nat.add_zero]; exact rfl)) ?_
                  first | refine jl_y rfl (by decide) rfl (y_load rfl (by first | exact mem0 | exact mem1 | exact mem2 | exact mem3 | exact mem4 | exact mem5) rfl) ?_ | refine jl_y rfl (by decide) rfl (y_load_row rfl (by first | exact mem0 | exact mem1 | exact mem2 | exact mem3 | exact mem4 | exact mem5) rfl) ?_ | refine jl_y rfl (by decide) rfl (y_load_old rfl (by assumption) (by simp)) ?_
                  refine jl_y rfl (by decide) rfl (y_indexAddr_arr rfl rfl (by omega) (by omega) (by simp only [Int.toNat_natCast, Int.reduceSub, Int.reduceAdd, Int.reduceToNat, Nat.reduceMul, Nat.reduceAdd, Nat.zero_add, Nat.mul_one, Nat.zero_mul, Nat.add_zero]; exact rfl)) ?_
                  first | refine jl_y rfl (by decide) rfl (y_load rfl (by first | exact mem0 | exact mem1 | exact mem2 | exact mem3 | exact mem4 | exact mem5) rfl) ?_ | refine jl_y rfl (by decide) rfl (y_load_row rfl (by first | exact mem0 | exact mem1 | exact mem2 | exact mem3 | exact mem4 | exact mem5) rfl) ?_ | refine jl_y rfl (by decide) rfl (y_load_old rfl (by assumption) (by simp)) ?_
                  first | refine jl_y rfl (by decide) rfl (y_conv_fits rfl (by simp only [fits]; omega)) ?_ | refine jl_y rfl (by decide) rfl (y_conv_u64 rfl) ?_
                  refine jl_pcall rfl (by decide) rfl (goes_func rfl) (fun w1 hw1 => pcall hw1 (value_any _ _ w1 (by simp only [fits] at *; omega) (by simp only [fits] at *; omega))) ?_
                  refine jl_y rfl (by decide) rfl (y_move rfl) ?_
                  refine jl_y rfl (by decide) rfl (y_extract rfl rfl) ?_
                  refine jl_y rfl (by decide) rfl (y_extract rfl rfl) ?_
                  refine jl_y rfl (by decide) rfl (y_assign rfl) ?_
                  refine jl_y rfl (by decide) rfl (y_assign rfl) ?_
                  refine jl_nil ?_
                  refine jq_then ?_
                  refine jc_seq ?_
                  -- region 11
                  refine jc_region ?_
                  refine jl_y rfl (by decide) rfl (y_indexAddr_arr rfl rfl (by omega) (by omega) (by simp only [Int.toNat_natCast, Int.reduceSub, Int.reduceAdd, Int.reduceToNat, Nat.reduceMul, Nat.reduceAdd, Nat.zero_add, Nat.mul_one, Nat.zero_mul, Nat.add_zero]; exact rfl)) ?_
                  first | refine jl_y rfl (by decide) rfl (y_load rfl (by first | exact mem0 | exact mem1 | exact mem2 | exact mem3 | exact mem4 | exact mem5) rfl) ?_ | refine jl_y rfl (by decide) rfl (y_load_row rfl (by first | exact mem0 | exact mem1 | exact mem2 | exact mem3 | exact mem4 | exact mem5) rfl) ?_ | refine jl_y rfl (by decide) rfl (y_load_old rfl (by assumption) (by simp)) ?_
                  refine jl_y rfl (by decide) rfl (y_indexAddr_arr rfl rfl (by omega) (by omega) (by simp only [Int.toNat_natCast, Int.reduceSub, Int.reduceAdd, Int.reduceToNat, Nat.reduceMul, Nat.reduceAdd, Nat.zero_add, Nat.mul_one, Nat.zero_mul, Nat.add_zero]; exact rfl)) ?_
                  first | refine jl_y rfl (by decide) rfl (y_load rfl (by first | exact mem0 | exact mem1 | exact mem2 | exact mem3 | exact mem4 | exact mem5) rfl) ?_ | refine jl_y rfl (by decide) rfl (y_load_row rfl (by first | exact mem0 | exact mem1 | exact mem2 | exact mem3 | exact mem4 | exact mem5) rfl) ?_ | refine jl_y rfl (by decide) rfl (y_load_old rfl (by assumption) (by simp)) ?_
                  first | refine jl_y rfl (by decide) rfl (y_conv_fits rfl (by simp only [fits]; omega)) ?_ | refine jl_y rfl (by decide) rfl (y_conv_u64 rfl) ?_
                  refine jl_pcall rfl (by decide) rfl (goes_func rfl) (fun w1 hw1 => pcall hw1 (rvalue_any _ _ w1 (by simp only [fits] at *; omega) (by simp only [fits] at *; omega))) ?_
                  refine jl_y rfl (by decide) rfl (y_move rfl) ?_
                  refine jl_y rfl (by decide) rfl (y_extract rfl rfl) ?_
                  refine jl_y rfl (by decide) rfl (y_extract rfl rfl) ?_
                  refine jl_y rfl (by decide) rfl (y_assign rfl) ?_
                  refine jl_y rfl (by decide) rfl (y_assign rfl) ?_
                  refine jl_nil ?_
                  refine jq_then ?_
                  refine jc_seq ?_
                  -- region 12
                  refine jc_region ?_
                  refine jl_y rfl (by decide) rfl (y_move rfl) ?_
                  refine jl_y rfl (by decide) rfl (y_move rfl) ?_
                  refine jl_y rfl (by decide) rfl (y_eql rfl rfl) ?_
                  refine jl_prop (fun h77 => ?_) (fun h77 => ?_)
                  · first
                    | (exfalso; omega)
                    | (
                      refine jl_y rfl (by decide) rfl (y_move rfl) ?_
                      refine jl_y rfl (by decide) rfl (y_move rfl) ?_
                      refine jl_y rfl (by decide) rfl (y_move rfl) ?_
                      refine jl_y rfl (by decide) rfl (y_eql rfl rfl) ?_
                      refine jl_prop (fun h81 => ?_) (fun h81 => ?_)
                      · first
                        | (exfalso; omega)
                        | (
                          refine jl_y rfl (by decide) rfl (y_pick_true rfl rfl) ?_
                          refine jl_y rfl (by decide) rfl (y_move rfl) ?_
                          refine jl_y rfl (by decide) rfl (y_move rfl) ?_
                          refine jl_y rfl (by decide) rfl (y_move rfl) ?_
                          refine jl_pcall rfl (by decide) rfl (goes_func rfl) (fun w1 hw1 => pcall hw1 (far_any _ _ w1 (by simp only [fits] at *; omega))) ?_
                          refine jl_y rfl (by decide) rfl (y_move rfl) ?_
                          refine jl_y rfl (by decide) rfl (y_move rfl) ?_
                          refine jl_pcall rfl (by decide) rfl (goes_func rfl) (fun w1 hw1 => pcall hw1 (rfar_any _ _ w1 (by simp only [fits] at *; omega))) ?_
                          refine jl_y rfl (by decide) rfl (y_seql rfl rfl) ?_
                          refine jl_as (u := .bool true) (congrArg (fun b => Value.bool b) (decide_eq_true (rfl))) ?_
                          refine jl_y rfl (by decide) rfl (y_pick_true rfl rfl) ?_
                          refine jl_y rfl (by decide) rfl (y_move rfl) ?_
                          refine jl_y rfl (by decide) rfl (y_move rfl) ?_
                          refine jl_y rfl (by decide) rfl (y_move rfl) ?_
                          refine jl_y rfl (by decide) rfl (y_eql rfl rfl) ?_
                          refine jl_prop (fun h95 => ?_) (fun h95 => ?_)
                          · first
                            | (exfalso; omega)
                            | (
                              refine jl_y rfl (by decide) rfl (y_pick_true rfl rfl) ?_
                              refine jl_y rfl (by decide) rfl (y_move rfl) ?_
                              refine jl_y rfl (by decide) rfl (y_move rfl) ?_
                              refine jl_y rfl (by decide) rfl (y_move rfl) ?_
                              refine jl_y rfl (by decide) rfl (y_eql rfl rfl) ?_
                              refine jl_prop (fun h100 => ?_) (fun h100 => ?_)
                              · first
                                | (exfalso; omega)
                                | (
                                  refine jl_y rfl (by decide) rfl (y_pick_true rfl rfl) ?_
                                  refine jl_y rfl (by decide) rfl (y_move rfl) ?_
                                  refine jl_pcall rfl (by decide) rfl (goes_func rfl) (fun w1 hw1 => pcall hw1 (fixed4_any w1)) ?_
                                  refine jl_y rfl (by decide) rfl (y_pick_true rfl rfl) ?_
                                  refine jl_y rfl (by decide) rfl (y_assign rfl) ?_
                                  refine jl_nil ?_
                                  refine jq_then ?_
                                  refine jc_ret ?_
                                  refine jq_ret1 rfl rfl ?_
                                  exact fun _ hw => ⟨rfl, hw.ch⟩
                                  )
                              · first
                                | (exfalso; omega)
                                | (
                                  refine jl_y rfl (by decide) rfl (y_pick_true rfl rfl) ?_
                                  refine jl_y rfl (by decide) rfl (y_move rfl) ?_
                                  refine jl_skip rfl (by decide) rfl ?_
                                  refine jl_y rfl (by decide) rfl (y_pick_false rfl rfl) ?_
                                  refine jl_y rfl (by decide) rfl (y_assign rfl) ?_
                                  refine jl_nil ?_
                                  refine jq_then ?_
                                  refine jc_ret ?_
                                  refine jq_ret1 rfl rfl ?_
                                  exact fun _ hw => ⟨rfl, hw.ch⟩
                                  )
                              )
                          · first
                            | (exfalso; omega)
                            | (
                              refine jl_y rfl (by decide) rfl (y_pick_true rfl rfl) ?_
                              refine jl_y rfl (by decide) rfl (y_move rfl) ?_
                              refine jl_skip rfl (by decide) rfl ?_
                              refine jl_skip rfl (by decide) rfl ?_
                              refine jl_skip rfl (by decide) rfl ?_
                              refine jl_y rfl (by decide) rfl (y_pick_false rfl rfl) ?_
                              refine jl_y rfl (by decide) rfl (y_move rfl) ?_
                              refine jl_skip rfl (by decide) rfl ?_
                              refine jl_y rfl (by decide) rfl (y_pick_false rfl rfl) ?_
                              refine jl_y rfl (by decide) rfl (y_assign rfl) ?_
                              refine jl_nil ?_
                              refine jq_then ?_
                              refine jc_ret ?_
                              refine jq_ret1 rfl rfl ?_
                              exact fun _ hw => ⟨rfl, hw.ch⟩
                              )
                          )
                      · first
                        | (exfalso; omega)
                        | (
                          refine jl_y rfl (by decide) rfl (y_pick_true rfl rfl) ?_
                          refine jl_y rfl (by decide) rfl (y_move rfl) ?_
                          refine jl_skip rfl (by decide) rfl ?_
                          refine jl_skip rfl (by decide) rfl ?_
                          refine jl_skip rfl (by decide) rfl ?_
                          refine jl_skip rfl (by decide) rfl ?_
                          refine jl_skip rfl (by decide) rfl ?_
                          refine jl_skip rfl (by decide) rfl ?_
                          refine jl_skip rfl (by decide) rfl ?_
                          refine jl_y rfl (by decide) rfl (y_pick_false rfl rfl) ?_
                          refine jl_y rfl (by decide) rfl (y_move rfl) ?_
                          refine jl_skip rfl (by decide) rfl ?_
                          refine jl_skip rfl (by decide) rfl ?_
                          refine jl_skip rfl (by decide) rfl ?_
                          refine jl_y rfl (by decide) rfl (y_pick_false rfl rfl) ?_
                          refine jl_y rfl (by decide) rfl (y_move rfl) ?_
                          refine jl_skip rfl (by decide) rfl ?_
                          refine jl_skip rfl (by decide) rfl ?_
                          refine jl_skip rfl (by decide) rfl ?_
                          refine jl_y rfl (by decide) rfl (y_pick_false rfl rfl) ?_
                          refine jl_y rfl (by decide) rfl (y_move rfl) ?_
                          refine jl_skip rfl (by decide) rfl ?_
                          refine jl_y rfl (by decide) rfl (y_pick_false rfl rfl) ?_
                          refine jl_y rfl (by decide) rfl (y_assign rfl) ?_
                          refine jl_nil ?_
                          refine jq_then ?_
                          refine jc_ret ?_
                          refine jq_ret1 rfl rfl ?_
                          exact fun _ hw => ⟨rfl, hw.ch⟩
                          )
                      )
                  · first
                    | (exfalso; omega)
                    | (
                      refine jl_y rfl (by decide) rfl (y_move rfl) ?_
                      refine jl_skip rfl (by decide) rfl ?_
                      refine jl_skip rfl (by decide) rfl ?_
                      refine jl_skip rfl (by decide) rfl ?_
                      refine jl_y rfl (by decide) rfl (y_pick_false rfl rfl) ?_
                      refine jl_y rfl (by decide) rfl (y_move rfl) ?_
                      refine jl_skip rfl (by decide) rfl ?_
                      refine jl_skip rfl (by decide) rfl ?_
                      refine jl_skip rfl (by decide) rfl ?_
                      refine jl_skip rfl (by decide) rfl ?_
                      refine jl_skip rfl (by decide) rfl ?_
                      refine jl_skip rfl (by decide) rfl ?_
                      refine jl_skip rfl (by decide) rfl ?_
                      refine jl_y rfl (by decide) rfl (y_pick_false rfl rfl) ?_
                      refine jl_y rfl (by decide) rfl (y_move rfl) ?_
                      refine jl_skip rfl (by decide) rfl ?_
                      refine jl_skip rfl (by decide) rfl ?_
                      refine jl_skip rfl (by decide) rfl ?_
                      refine jl_y rfl (by decide) rfl (y_pick_false rfl rfl) ?_
                      refine jl_y rfl (by decide) rfl (y_move rfl) ?_
                      refine jl_skip rfl (by decide) rfl ?_
                      refine jl_skip rfl (by decide) rfl ?_
                      refine jl_skip rfl (by decide) rfl ?_
                      refine jl_y rfl (by decide) rfl (y_pick_false rfl rfl) ?_
                      refine jl_y rfl (by decide) rfl (y_move rfl) ?_
                      refine jl_skip rfl (by decide) rfl ?_
                      refine jl_y rfl (by decide) rfl (y_pick_false rfl rfl) ?_
                      refine jl_y rfl (by decide) rfl (y_assign rfl) ?_
                      refine jl_nil ?_
                      refine jq_then ?_
                      refine jc_ret ?_
                      refine jq_ret1 rfl rfl ?_
                      exact fun _ hw => ⟨rfl, hw.ch⟩
                      )
                  )
              · first
                | (exfalso; omega)
                | (
                  refine jl_y rfl (by decide) rfl (y_pick_true rfl rfl) ?_
                  refine jl_nil ?_
                  refine jq_then ?_
                  refine jc_false rfl ?_
                  refine jc_skip ?_
                  refine jq_then ?_
                  refine jc_seq ?_
                  -- region 8
                  refine jc_region ?_
                  refine jl_y rfl (by decide) rfl (y_move rfl) ?_
                  refine jl_y rfl (by decide) rfl (y_move rfl) ?_
                  refine jl_y rfl (by decide) rfl (y_move rfl) ?_
                  refine jl_pcall rfl (by decide) rfl (goes_func rfl) (fun w1 hw1 => pcall hw1 (count_any _ _ _ w1 (by simp only [fits] at *; omega))) ?_
                  refine jl_y rfl (by decide) rfl (y_move rfl) ?_
                  refine jl_y rfl (by decide) rfl (y_extract rfl rfl) ?_
                  refine jl_y rfl (by decide) rfl (y_extract rfl rfl) ?_
                  refine jl_y rfl (by decide) rfl (y_assign rfl) ?_
                  refine jl_y rfl (by decide) rfl (y_assign rfl) ?_
                  refine jl_nil ?_
                  refine jq_then ?_
                  refine jc_seq ?_
                  -- region 9
                  refine jc_region ?_
                  refine jl_y rfl (by decide) rfl (y_move rfl) ?_
                  refine jl_y rfl (by decide) rfl (y_move rfl) ?_
                  refine jl_y rfl (by decide) rfl (y_move rfl) ?_
                  refine jl_pcall rfl (by decide) rfl (goes_func rfl) (fun w1 hw1 => pcall hw1 (rcount_any _ _ _ w1 (by simp only [fits] at *; omega))) ?_
                  refine jl_y rfl (by decide) rfl (y_move rfl) ?_
                  refine jl_y rfl (by decide) rfl (y_extract rfl rfl) ?_
                  refine jl_y rfl (by decide) rfl (y_extract rfl rfl) ?_
                  refine jl_y rfl (by decide) rfl (y_assign rfl) ?_
                  refine jl_y rfl (by decide) rfl (y_assign rfl) ?_
                  refine jl_nil ?_
                  refine jq_then ?_
                  refine jc_seq ?_
                  -- region 10
                  refine jc_region ?_
                  refine jl_y rfl (by decide) rfl (y_indexAddr_arr rfl rfl (by omega) (by omega) (by simp only [Int.toNat_natCast, Int.reduceSub, Int.reduceAdd, Int.reduceToNat, Nat.reduceMul, Nat.reduceAdd, Nat.zero_add, Nat.mul_one, Nat.zero_mul, Nat.add_zero]; exact rfl)) ?_
                  first | refine jl_y rfl (by decide) rfl (y_load rfl (by first | exact mem0 | exact mem1 | exact mem2 | exact mem3 | exact mem4 | exact mem5) rfl) ?_ | refine jl_y rfl (by decide) rfl (y_load_row rfl (by first | exact mem0 | exact mem1 | exact mem2 | exact mem3 | exact mem4 | exact mem5) rfl) ?_ | refine jl_y rfl (by decide) rfl (y_load_old rfl (by assumption) (by simp)) ?_
                  refine jl_y rfl (by decide) rfl (y_indexAddr_arr rfl rfl (by omega) (by omega) (by simp only [Int.toNat_natCast, Int.reduceSub, Int.reduceAdd, Int.reduceToNat, Nat.reduceMul, Nat.reduceAdd, Nat.zero_add, Nat.mul_one, Nat.zero_mul, Nat.add_zero]; exact rfl)) ?_
                  first | refine jl_y rfl (by decide) rfl (y_load rfl (by first | exact mem0 | exact mem1 | exact mem2 | exact mem3 | exact mem4 | exact mem5) rfl) ?_ | refine jl_y rfl (by decide) rfl (y_load_row rfl (by first | exact mem0 | exact mem1 | exact mem2 | exact mem3 | exact mem4 | exact mem5) rfl) ?_ | refine jl_y rfl (by decide) rfl (y_load_old rfl (by assumption) (by simp)) ?_
                  first | refine jl_y rfl (by decide) rfl (y_conv_fits rfl (by simp only [fits]; omega)) ?_ | refine jl_y rfl (by decide) rfl (y_conv_u64 rfl) ?_
                  refine jl_pcall rfl (by decide) rfl (goes_func rfl) (fun w1 hw1 => pcall hw1 (value_any _ _ w1 (by simp only [fits] at *; omega) (by simp only [fits] at *; omega))) ?_
                  refine jl_y rfl (by decide) rfl (y_move rfl) ?_
                  refine jl_y rfl (by decide) rfl (y_extract rfl rfl) ?_
                  refine jl_y rfl (by decide) rfl (y_extract rfl rfl) ?_
                  refine jl_y rfl (by decide) rfl (y_assign rfl) ?_
                  refine jl_y rfl (by decide) rfl (y_assign rfl) ?_
                  refine jl_nil ?_
                  refine jq_then ?_
                  refine jc_seq ?_
                  -- region 11
                  refine jc_region ?_
                  refine jl_y rfl (by decide) rfl (y_indexAddr_arr rfl rfl (by omega) (by omega) (by simp only [Int.toNat_natCast, Int.reduceSub, Int.reduceAdd, Int.reduceToNat, Nat.reduceMul, Nat.reduceAdd, Nat.zero_add, Nat.mul_one, Nat.zero_mul, Nat.add_zero]; exact rfl)) ?_
                  first | refine jl_y rfl (by decide) rfl (y_load rfl (by first | exact mem0 | exact mem1 | exact mem2 | exact mem3 | exact mem4 | exact mem5) rfl) ?_ | refine jl_y rfl (by decide) rfl (y_load_row rfl (by first | exact mem0 | exact mem1 | exact mem2 | exact mem3 | exact mem4 | exact mem5) rfl) ?_ | refine jl_y rfl (by decide) rfl (y_load_old rfl (by assumption) (by simp)) ?_
                  refine jl_y rfl (by decide) rfl (y_indexAddr_arr rfl rfl (by omega) (by omega) (by simp only [Int.toNat_natCast, Int.reduceSub, Int.reduceAdd, Int.reduceToNat, Nat.reduceMul, Nat.reduceAdd, Nat.zero_add, Nat.mul_one, Nat.zero_mul, Nat.add_zero]; exact rfl)) ?_
                  first | refine jl_y rfl (by decide) rfl (y_load rfl (by first | exact mem0 | exact mem1 | exact mem2 | exact mem3 | exact mem4 | exact mem5) rfl) ?_ | refine jl_y rfl (by decide) rfl (y_load_row rfl (by first | exact mem0 | exact mem1 | exact mem2 | exact mem3 | exact mem4 | exact mem5) rfl) ?_ | refine jl_y rfl (by decide) rfl (y_load_old rfl (by assumption) (by simp)) ?_
                  first | refine jl_y rfl (by decide) rfl (y_conv_fits rfl (by simp only [fits]; omega)) ?_ | refine jl_y rfl (by decide) rfl (y_conv_u64 rfl) ?_
                  refine jl_pcall rfl (by decide) rfl (goes_func rfl) (fun w1 hw1 => pcall hw1 (rvalue_any _ _ w1 (by simp only [fits] at *; omega) (by simp only [fits] at *; omega))) ?_
                  refine jl_y rfl (by decide) rfl (y_move rfl) ?_
                  refine jl_y rfl (by decide) rfl (y_extract rfl rfl) ?_
                  refine jl_y rfl (by decide) rfl (y_extract rfl rfl) ?_
                  refine jl_y rfl (by decide) rfl (y_assign rfl) ?_
                  refine jl_y rfl (by decide) rfl (y_assign rfl) ?_
                  refine jl_nil ?_
                  refine jq_then ?_
                  refine jc_seq ?_
                  -- region 12
                  refine jc_region ?_
                  refine jl_y rfl (by decide) rfl (y_move rfl) ?_
                  refine jl_y rfl (by decide) rfl (y_move rfl) ?_
                  refine jl_y rfl (by decide) rfl (y_eql rfl rfl) ?_
                  refine jl_prop (fun h77 => ?_) (fun h77 => ?_)
                  · first
                    | (exfalso; omega)
                    | (
                      refine jl_y rfl (by decide) rfl (y_move rfl) ?_
                      refine jl_y rfl (by decide) rfl (y_move rfl) ?_
                      refine jl_y rfl (by decide) rfl (y_move rfl) ?_
                      refine jl_y rfl (by decide) rfl (y_eql rfl rfl) ?_
                      refine jl_prop (fun h81 => ?_) (fun h81 => ?_)
                      · first
                        | (exfalso; omega)
                        | (
                          refine jl_y rfl (by decide) rfl (y_pick_true rfl rfl) ?_
                          refine jl_y rfl (by decide) rfl (y_move rfl) ?_
                          refine jl_y rfl (by decide) rfl (y_move rfl) ?_
                          refine jl_y rfl (by decide) rfl (y_move rfl) ?_
                          refine jl_pcall rfl (by decide) rfl (goes_func rfl) (fun w1 hw1 => pcall hw1 (far_any _ _ w1 (by simp only [fits] at *; omega))) ?_
                          refine jl_y rfl (by decide) rfl (y_move rfl) ?_
                          refine jl_y rfl (by decide) rfl (y_move rfl) ?_
                          refine jl_pcall rfl (by decide) rfl (goes_func rfl) (fun w1 hw1 => pcall hw1 (rfar_any _ _ w1 (by simp only [fits] at *; omega))) ?_
                          refine jl_y rfl (by decide) rfl (y_seql rfl rfl) ?_
                          refine jl_as (u := .bool true) (congrArg (fun b => Value.bool b) (decide_eq_true (rfl))) ?_
                          refine jl_y rfl (by decide) rfl (y_pick_true rfl rfl) ?_
                          refine jl_y rfl (by decide) rfl (y_move rfl) ?_
                          refine jl_y rfl (by decide) rfl (y_move rfl) ?_
                          refine jl_y rfl (by decide) rfl (y_move rfl) ?_
                          refine jl_y rfl (by decide) rfl (y_eql rfl rfl) ?_
                          refine jl_prop (fun h95 => ?_) (fun h95 => ?_)
                          · first
                            | (exfalso; omega)
                            | (
                              refine jl_y rfl (by decide) rfl (y_pick_true rfl rfl) ?_
                              refine jl_y rfl (by decide) rfl (y_move rfl) ?_
                              refine jl_y rfl (by decide) rfl (y_move rfl) ?_
                              refine jl_y rfl (by decide) rfl (y_move rfl) ?_
                              refine jl_y rfl (by decide) rfl (y_eql rfl rfl) ?_
                              refine jl_prop (fun h100 => ?_) (fun h100 => ?_)
                              · first
                                | (exfalso; omega)
                                | (
                                  refine jl_y rfl (by decide) rfl (y_pick_true rfl rfl) ?_
                                  refine jl_y rfl (by decide) rfl (y_move rfl) ?_
                                  refine jl_pcall rfl (by decide) rfl (goes_func rfl) (fun w1 hw1 => pcall hw1 (fixed4_any w1)) ?_
                                  refine jl_y rfl (by decide) rfl (y_pick_true rfl rfl) ?_
                                  refine jl_y rfl (by decide) rfl (y_assign rfl) ?_
                                  refine jl_nil ?_
                                  refine jq_then ?_
                                  refine jc_ret ?_
                                  refine jq_ret1 rfl rfl ?_
                                  exact fun _ hw => ⟨rfl, hw.ch⟩
                                  )
                              · first
                                | (exfalso; omega)
                                | (
                                  refine jl_y rfl (by decide) rfl (y_pick_true rfl rfl) ?_
                                  refine jl_y rfl (by decide) rfl (y_move rfl) ?_
                                  refine jl_skip rfl (by decide) rfl ?_
                                  refine jl_y rfl (by decide) rfl (y_pick_false rfl rfl) ?_
                                  refine jl_y rfl (by decide) rfl (y_assign rfl) ?_
                                  refine jl_nil ?_
                                  refine jq_then ?_
                                  refine jc_ret ?_
                                  refine jq_ret1 rfl rfl ?_
                                  exact fun _ hw => ⟨rfl, hw.ch⟩
                                  )
                              )
                          · first
                            | (exfalso; omega)
                            | (
                              refine jl_y rfl (by decide) rfl (y_pick_true rfl rfl) ?_
                              refine jl_y rfl (by decide) rfl (y_move rfl) ?_
                              refine jl_skip rfl (by decide) rfl ?_
                              refine jl_skip rfl (by decide) rfl ?_
                              refine jl_skip rfl (by decide) rfl ?_
                              refine jl_y rfl (by decide) rfl (y_pick_false rfl rfl) ?_
                              refine jl_y rfl (by decide) rfl (y_move rfl) ?_
                              refine jl_skip rfl (by decide) rfl ?_
                              refine jl_y rfl (by decide) rfl (y_pick_false rfl rfl) ?_
                              refine jl_y rfl (by decide) rfl (y_assign rfl) ?_
                              refine jl_nil ?_
                              refine jq_then ?_
                              refine jc_ret ?_
                              refine jq_ret1 rfl rfl ?_
                              exact fun _ hw => ⟨rfl, hw.ch⟩
                              )
                          )
                      · first
                        | (exfalso; omega)
                        | (
                          refine jl_y rfl (by decide) rfl (y_pick_true rfl rfl) ?_
                          refine jl_y rfl (by decide) rfl (y_move rfl) ?_
                          refine jl_skip rfl (by decide) rfl ?_
                          refine jl_skip rfl (by decide) rfl ?_
                          refine jl_skip rfl (by decide) rfl ?_
                          refine jl_skip rfl (by decide) rfl ?_
                          refine jl_skip rfl (by decide) rfl ?_
                          refine jl_skip rfl (by decide) rfl ?_
                          refine jl_skip rfl (by decide) rfl ?_
                          refine jl_y rfl (by decide) rfl (y_pick_false rfl rfl) ?_
                          refine jl_y rfl (by decide) rfl (y_move rfl) ?_
                          refine jl_skip rfl (by decide) rfl ?_
                          refine jl_skip rfl (by decide) rfl ?_
                          refine jl_skip rfl (by decide) rfl ?_
                          refine jl_y rfl (by decide) rfl (y_pick_false rfl rfl) ?_
                          refine jl_y rfl (by decide) rfl (y_move rfl) ?_
                          refine jl_skip rfl (by decide) rfl ?_
                          refine jl_skip rfl (by decide) rfl ?_
                          refine jl_skip rfl (by decide) rfl ?_
                          refine jl_y rfl (by decide) rfl (y_pick_false rfl rfl) ?_
                          refine jl_y rfl (by decide) rfl (y_move rfl) ?_
                          refine jl_skip rfl (by decide) rfl ?_
                          refine jl_y rfl (by decide) rfl (y_pick_false rfl rfl) ?_
                          refine jl_y rfl (by decide) rfl (y_assign rfl) ?_
                          refine jl_nil ?_
                          refine jq_then ?_
                          refine jc_ret ?_
                          refine jq_ret1 rfl rfl ?_
                          exact fun _ hw => ⟨rfl, hw.ch⟩
                          )
                      )
                  · first
                    | (exfalso; omega)
                    | (
                      refine jl_y rfl (by decide) rfl (y_move rfl) ?_
                      refine jl_skip rfl (by decide) rfl ?_
                      refine jl_skip rfl (by decide) rfl ?_
                      refine jl_skip rfl (by decide) rfl ?_
                      refine jl_y rfl (by decide) rfl (y_pick_false rfl rfl) ?_
                      refine jl_y rfl (by decide) rfl (y_move rfl) ?_
                      refine jl_skip rfl (by decide) rfl ?_
                      refine jl_skip rfl (by decide) rfl ?_
                      refine jl_skip rfl (by decide) rfl ?_
                      refine jl_skip rfl (by decide) rfl ?_
                      refine jl_skip rfl (by decide) rfl ?_
                      refine jl_skip rfl (by decide) rfl ?_
                      refine jl_skip rfl (by decide) rfl ?_
                      refine jl_y rfl (by decide) rfl (y_pick_false rfl rfl) ?_
                      refine jl_y rfl (by decide) rfl (y_move rfl) ?_
                      refine jl_skip rfl (by decide) rfl ?_
                      refine jl_skip rfl (by decide) rfl ?_
                      refine jl_skip rfl (by decide) rfl ?_
                      refine jl_y rfl (by decide) rfl (y_pick_false rfl rfl) ?_
                      refine jl_y rfl (by decide) rfl (y_move rfl) ?_
                      refine jl_skip rfl (by decide) rfl ?_
                      refine jl_skip rfl (by decide) rfl ?_
                      refine jl_skip rfl (by decide) rfl ?_
                      refine jl_y rfl (by decide) rfl (y_pick_false rfl rfl) ?_
                      refine jl_y rfl (by decide) rfl (y_move rfl) ?_
                      refine jl_skip rfl (by decide) rfl ?_
                      refine jl_y rfl (by decide) rfl (y_pick_false rfl rfl) ?_
                      refine jl_y rfl (by decide) rfl (y_assign rfl) ?_
                      refine jl_nil ?_
                      refine jq_then ?_
                      refine jc_ret ?_
                      refine jq_ret1 rfl rfl ?_
                      exact fun _ hw => ⟨rfl, hw.ch⟩
                      )
                  )
              )
          · first
            | (exfalso; omega)
            | (
              refine jl_y rfl (by decide) rfl (y_move rfl) ?_
              refine jl_skip rfl (by decide) rfl ?_
              refine jl_skip rfl (by decide) rfl ?_
              refine jl_y rfl (by decide) rfl (y_pick_false rfl rfl) ?_
              refine jl_nil ?_
              refine jq_then ?_
              refine jc_false rfl ?_
              refine jc_skip ?_
              refine jq_then ?_
              refine jc_seq ?_
              -- region 8
              refine jc_region ?_
              refine jl_y rfl (by decide) rfl (y_move rfl) ?_
              refine jl_y rfl (by decide) rfl (y_move rfl) ?_
              refine jl_y rfl (by decide) rfl (y_move rfl) ?_
              refine jl_pcall rfl (by decide) rfl (goes_func rfl) (fun w1 hw1 => pcall hw1 (count_any _ _ _ w1 (by simp only [fits] at *; omega))) ?_
              refine jl_y rfl (by decide) rfl (y_move rfl) ?_
              refine jl_y rfl (by decide) rfl (y_extract rfl rfl) ?_
              refine jl_y rfl (by decide) rfl (y_extract rfl rfl) ?_
              refine jl_y rfl (by decide) rfl (y_assign rfl) ?_
              refine jl_y rfl (by decide) rfl (y_assign rfl) ?_
              refine jl_nil ?_
              refine jq_then ?_
              refine jc_seq ?_
              -- region 9
              refine jc_region ?_
              refine jl_y rfl (by decide) rfl (y_move rfl) ?_
              refine jl_y rfl (by decide) rfl (y_move rfl) ?_
              refine jl_y rfl (by decide) rfl (y_move rfl) ?_
              refine jl_pcall rfl (by decide) rfl (goes_func rfl) (fun w1 hw1 => pcall hw1 (rcount_any _ _ _ w1 (by simp only [fits] at *; omega))) ?_
              refine jl_y rfl (by decide) rfl (y_move rfl) ?_
              refine jl_y rfl (by decide) rfl (y_extract rfl rfl) ?_
              refine jl_y rfl (by decide) rfl (y_extract rfl rfl) ?_
              refine jl_y rfl (by decide) rfl (y_assign rfl) ?_
              refine jl_y rfl (by decide) rfl (y_assign rfl) ?_
              refine jl_nil ?_
              refine jq_then ?_
              refine jc_seq ?_
              -- region 10
              refine jc_region ?_
              refine jl_y rfl (by decide) rfl (y_indexAddr_arr rfl rfl (by omega) (by omega) (by simp only [Int.toNat_natCast, Int.reduceSub, Int.reduceAdd, Int.reduceToNat, Nat.reduceMul, Nat.reduceAdd, Nat.zero_add, Nat.mul_one, Nat.zero_mul, Nat.add_zero]; exact rfl)) ?_
              first | refine jl_y rfl (by decide) rfl (y_load rfl (by first | exact mem0 | exact mem1 | exact mem2 | exact mem3 | exact mem4 | exact mem5) rfl) ?_ | refine jl_y rfl (by decide) rfl (y_load_row rfl (by first | exact mem0 | exact mem1 | exact mem2 | exact mem3 | exact mem4 | exact mem5) rfl) ?_ | refine jl_y rfl (by decide) rfl (y_load_old rfl (by assumption) (by simp)) ?_
              refine jl_y rfl (by decide) rfl (y_indexAddr_arr rfl rfl (by omega) (by omega) (by simp only [Int.toNat_natCast, Int.reduceSub, Int.reduceAdd, Int.reduceToNat, Nat.reduceMul, Nat.reduceAdd, Nat.zero_add, Nat.mul_one, Nat.zero_mul, Nat.add_zero]; exact rfl)) ?_
              first | refine jl_y rfl (by decide) rfl (y_load rfl (by first | exact mem0 | exact mem1 | exact mem2 | exact mem3 | exact mem4 | exact mem5) rfl) ?_ | refine jl_y rfl (by decide) rfl (y_load_row rfl (by first | exact mem0 | exact mem1 | exact mem2 | exact mem3 | exact mem4 | exact mem5) rfl) ?_ | refine jl_y rfl (by decide) rfl (y_load_old rfl (by assumption) (by simp)) ?_
              first | refine jl_y rfl (by decide) rfl (y_conv_fits rfl (by simp only [fits]; omega)) ?_ | refine jl_y rfl (by decide) rfl (y_conv_u64 rfl) ?_
              refine jl_pcall rfl (by decide) rfl (goes_func rfl) (fun w1 hw1 => pcall hw1 (value_any _ _ w1 (by simp only [fits] at *; omega) (by simp only [fits] at *; omega))) ?_
              refine jl_y rfl (by decide) rfl (y_move rfl) ?_
              refine jl_y rfl (by decide) rfl (y_extract rfl rfl) ?_
              refine jl_y rfl (by decide) rfl (y_extract rfl rfl) ?_
              refine jl_y rfl (by decide) rfl (y_assign rfl) ?_
              refine jl_y rfl (by decide) rfl (y_assign rfl) ?_
              refine jl_nil ?_
              refine jq_then ?_
              refine jc_seq ?_
              -- region 11
              refine jc_region ?_
              refine jl_y rfl (by decide) rfl (y_indexAddr_arr rfl rfl (by omega) (by omega) (by simp only [Int.toNat_natCast, Int.reduceSub, Int.reduceAdd, Int.reduceToNat, Nat.reduceMul, Nat.reduceAdd, Nat.zero_add, Nat.mul_one, Nat.zero_mul, Nat.add_zero]; exact rfl)) ?_
              first | refine jl_y rfl (by decide) rfl (y_load rfl (by first | exact mem0 | exact mem1 | exact mem2 | exact mem3 | exact mem4 | exact mem5) rfl) ?_ | refine jl_y rfl (by decide) rfl (y_load_row rfl (by first | exact mem0 | exact mem1 | exact mem2 | exact mem3 | exact mem4 | exact mem5) rfl) ?_ | refine jl_y rfl (by decide) rfl (y_load_old rfl (by assumption) (by simp)) ?_
              refine jl_y rfl (by decide) rfl (y_indexAddr_arr rfl rfl (by omega) (by omega) (by simp only [Int.toNat_natCast, Int.reduceSub, Int.reduceAdd, Int.reduceToNat, Nat.reduceMul, Nat.reduceAdd, Nat.zero_add, Nat.mul_one, Nat.zero_mul, Nat.add_zero]; exact rfl)) ?_
              first | refine jl_y rfl (by decide) rfl (y_load rfl (by first | exact mem0 | exact mem1 | exact mem2 | exact mem3 | exact mem4 | exact mem5) rfl) ?_ | refine jl_y rfl (by decide) rfl (y_load_row rfl (by first | exact mem0 | exact mem1 | exact mem2 | exact mem3 | exact mem4 | exact mem5) rfl) ?_ | refine jl_y rfl (by decide) rfl (y_load_old rfl (by assumption) (by simp)) ?_
              first | refine jl_y rfl (by decide) rfl (y_conv_fits rfl (by simp only [fits]; omega)) ?_ | refine jl_y rfl (by decide) rfl (y_conv_u64 rfl) ?_
              refine jl_pcall rfl (by decide) rfl (goes_func rfl) (fun w1 hw1 => pcall hw1 (rvalue_any _ _ w1 (by simp only [fits] at *; omega) (by simp only [fits] at *; omega))) ?_
              refine jl_y rfl (by decide) rfl (y_move rfl) ?_
              refine jl_y rfl (by decide) rfl (y_extract rfl rfl) ?_
              refine jl_y rfl (by decide) rfl (y_extract rfl rfl) ?_
              refine jl_y rfl (by decide) rfl (y_assign rfl) ?_
              refine jl_y rfl (by decide) rfl (y_assign rfl) ?_
              refine jl_nil ?_
              refine jq_then ?_
              refine jc_seq ?_
              -- region 12
              refine jc_region ?_
              refine jl_y rfl (by decide) rfl (y_move rfl) ?_
              refine jl_y rfl (by decide) rfl (y_move rfl) ?_
              refine jl_y rfl (by decide) rfl (y_eql rfl rfl) ?_
              refine jl_prop (fun h77 => ?_) (fun h77 => ?_)
              · first
                | (exfalso; omega)
                | (
                  refine jl_y rfl (by decide) rfl (y_move rfl) ?_
                  refine jl_y rfl (by decide) rfl (y_move rfl) ?_
                  refine jl_y rfl (by decide) rfl (y_move rfl) ?_
                  refine jl_y rfl (by decide) rfl (y_eql rfl rfl) ?_
                  refine jl_prop (fun h81 => ?_) (fun h81 => ?_)
                  · first
                    | (exfalso; omega)
                    | (
                      refine jl_y rfl (by decide) rfl (y_pick_true rfl rfl) ?_
                      refine jl_y rfl (by decide) rfl (y_move rfl) ?_
                      refine jl_y rfl (by decide) rfl (y_move rfl) ?_
                      refine jl_y rfl (by decide) rfl (y_move rfl) ?_
                      refine jl_pcall rfl (by decide) rfl (goes_func rfl) (fun w1 hw1 => pcall hw1 (far_any _ _ w1 (by simp only [fits] at *; omega))) ?_
                      refine jl_y rfl (by decide) rfl (y_move rfl) ?_
                      refine jl_y rfl (by decide) rfl (y_move rfl) ?_
                      refine jl_pcall rfl (by decide) rfl (goes_func rfl) (fun w1 hw1 => pcall hw1 (rfar_any _ _ w1 (by simp only [fits] at *; omega))) ?_
                      refine jl_y rfl (by decide) rfl (y_seql rfl rfl) ?_
                      refine jl_as (u := .bool true) (congrArg (fun b => Value.bool b) (decide_eq_true (rfl))) ?_
                      refine jl_y rfl (by decide) rfl (y_pick_true rfl rfl) ?_
                      refine jl_y rfl (by decide) rfl (y_move rfl) ?_
                      refine jl_y rfl (by decide) rfl (y_move rfl) ?_
                      refine jl_y rfl (by decide) rfl (y_move rfl) ?_
                      refine jl_y rfl (by decide) rfl (y_eql rfl rfl) ?_
                      refine jl_prop (fun h95 => ?_) (fun h95 => ?_)
                      · first
                        | (exfalso; omega)
                        | (
                          refine jl_y rfl (by decide) rfl (y_pick_true rfl rfl) ?_
                          refine jl_y rfl (by decide) rfl (y_move rfl) ?_
                          refine jl_y rfl (by decide) rfl (y_move rfl) ?_
                          refine jl_y rfl (by decide) rfl (y_move rfl) ?_
                          refine jl_y rfl (by decide) rfl (y_eql rfl rfl) ?_
                          refine jl_prop (fun h100 => ?_) (fun h100 => ?_)
                          · first
                            | (exfalso; omega)
                            | (
                              refine jl_y rfl (by decide) rfl (y_pick_true rfl rfl) ?_
                              refine jl_y rfl (by decide) rfl (y_move rfl) ?_
                              refine jl_pcall rfl (by decide) rfl (goes_func rfl) (fun w1 hw1 => pcall hw1 (fixed4_any w1)) ?_
                              refine jl_y rfl (by decide) rfl (y_pick_true rfl rfl) ?_
                              refine jl_y rfl (by decide) rfl (y_assign rfl) ?_
                              refine jl_nil ?_
                              refine jq_then ?_
                              refine jc_ret ?_
                              refine jq_ret1 rfl rfl ?_
                              exact fun _ hw => ⟨rfl, hw.ch⟩
                              )
                          · first
                            | (exfalso; omega)
                            | (
                              refine jl_y rfl (by decide) rfl (y_pick_true rfl rfl) ?_
                              refine jl_y rfl (by decide) rfl (y_move rfl) ?_
                              refine jl_skip rfl (by decide) rfl ?_
                              refine jl_y rfl (by decide) rfl (y_pick_false rfl rfl) ?_
                              refine jl_y rfl (by decide) rfl (y_assign rfl) ?_
                              refine jl_nil ?_
                              refine jq_then ?_
                              refine jc_ret ?_
                              refine jq_ret1 rfl rfl ?_
                              exact fun _ hw => ⟨rfl, hw.ch⟩
                              )
                          )
                      · first
                        | (exfalso; omega)
                        | (
                          refine jl_y rfl (by decide) rfl (y_pick_true rfl rfl) ?_
                          refine jl_y rfl (by decide) rfl (y_move rfl) ?_
                          refine jl_skip rfl (by decide) rfl ?_
                          refine jl_skip rfl (by decide) rfl ?_
                          refine jl_skip rfl (by decide) rfl ?_
                          refine jl_y rfl (by decide) rfl (y_pick_false rfl rfl) ?_
                          refine jl_y rfl (by decide) rfl (y_move rfl) ?_
                          refine jl_skip rfl (by decide) rfl ?_
                          refine jl_y rfl (by decide) rfl (y_pick_false rfl rfl) ?_
                          refine jl_y rfl (by decide) rfl (y_assign rfl) ?_
                          refine jl_nil ?_
                          refine jq_then ?_
                          refine jc_ret ?_
                          refine jq_ret1 rfl rfl ?_
                          exact fun _ hw => ⟨rfl, hw.ch⟩
                          )
                      )
                  · first
                    | (exfalso; omega)
                    | (
                      refine jl_y rfl (by decide) rfl (y_pick_true rfl rfl) ?_
                      refine jl_y rfl (by decide) rfl (y_move rfl) ?_
                      refine jl_skip rfl (by decide) rfl ?_
                      refine jl_skip rfl (by decide) rfl ?_
                      refine jl_skip rfl (by decide) rfl ?_
                      refine jl_skip rfl (by decide) rfl ?_
                      refine jl_skip rfl (by decide) rfl ?_
                      refine jl_skip rfl (by decide) rfl ?_
                      refine jl_skip rfl (by decide) rfl ?_
                      refine jl_y rfl (by decide) rfl (y_pick_false rfl rfl) ?_
                      refine jl_y rfl (by decide) rfl (y_move rfl) ?_
                      refine jl_skip rfl (by decide) rfl ?_
                      refine jl_skip rfl (by decide) rfl ?_
                      refine jl_skip rfl (by decide) rfl ?_
                      refine jl_y rfl (by decide) rfl (y_pick_false rfl rfl) ?_
                      refine jl_y rfl (by decide) rfl (y_move rfl) ?_
                      refine jl_skip rfl (by decide) rfl ?_
                      refine jl_skip rfl (by decide) rfl ?_
                      refine jl_skip rfl (by decide) rfl ?_
                      refine jl_y rfl (by decide) rfl (y_pick_false rfl rfl) ?_
                      refine jl_y rfl (by decide) rfl (y_move rfl) ?_
                      refine jl_skip rfl (by decide) rfl ?_
                      refine jl_y rfl (by decide) rfl (y_pick_false rfl rfl) ?_
                      refine jl_y rfl (by decide) rfl (y_assign rfl) ?_
                      refine jl_nil ?_
                      refine jq_then ?_
                      refine jc_ret ?_
                      refine jq_ret1 rfl rfl ?_
                      exact fun _ hw => ⟨rfl, hw.ch⟩
                      )
                  )
              · first
                | (exfalso; omega)
                | (
                  refine jl_y rfl (by decide) rfl (y_move rfl) ?_
                  refine jl_skip rfl (by decide) rfl ?_
                  refine jl_skip rfl (by decide) rfl ?_
                  refine jl_skip rfl (by decide) rfl ?_
                  refine jl_y rfl (by decide) rfl (y_pick_false rfl rfl) ?_
                  refine jl_y rfl (by decide) rfl (y_move rfl) ?_
                  refine jl_skip rfl (by decide) rfl ?_
                  refine jl_skip rfl (by decide) rfl ?_
                  refine jl_skip rfl (by decide) rfl ?_
                  refine jl_skip rfl (by decide) rfl ?_
                  refine jl_skip rfl (by decide) rfl ?_
                  refine jl_skip rfl (by decide) rfl ?_
                  refine jl_skip rfl (by decide) rfl ?_
                  refine jl_y rfl (by decide) rfl (y_pick_false rfl rfl) ?_
                  refine jl_y rfl (by decide) rfl (y_move rfl) ?_
                  refine jl_skip rfl (by decide) rfl ?_
                  refine jl_skip rfl (by decide) rfl ?_
                  refine jl_skip rfl (by decide) rfl ?_
                  refine jl_y rfl (by decide) rfl (y_pick_false rfl rfl) ?_
                  refine jl_y rfl (by decide) rfl (y_move rfl) ?_
                  refine jl_skip rfl (by decide) rfl ?_
                  refine jl_skip rfl (by decide) rfl ?_
                  refine jl_skip rfl (by decide) rfl ?_
                  refine jl_y rfl (by decide) rfl (y_pick_false rfl rfl) ?_
                  refine jl_y rfl (by decide) rfl (y_move rfl) ?_
                  refine jl_skip rfl (by decide) rfl ?_
                  refine jl_y rfl (by decide) rfl (y_pick_false rfl rfl) ?_
                  refine jl_y rfl (by decide) rfl (y_assign rfl) ?_
                  refine jl_nil ?_
                  refine jq_then ?_
                  refine jc_ret ?_
                  refine jq_ret1 rfl rfl ?_
                  exact fun _ hw => ⟨rfl, hw.ch⟩
                  )
              )
          )
      · first
        | (exfalso; omega)
        | (
          refine jl_y rfl (by decide) rfl (y_pick_true rfl rfl) ?_
          refine jl_nil ?_
          refine jq_then ?_
          refine jc_false rfl ?_
          refine jc_skip ?_
          refine jq_then ?_
          refine jc_seq ?_
          refine jc_seq ?_
          -- region 6
          refine jc_region ?_
          refine jl_y rfl (by decide) rfl (y_move rfl) ?_
          refine jl_y rfl (by decide) rfl (y_gtr rfl rfl) ?_
          refine jl_prop (fun h38 => ?_) (fun h38 => ?_)
          · first
            | (exfalso; omega)
            | (
              refine jl_y rfl (by decide) rfl (y_move rfl) ?_
              refine jl_y rfl (by decide) rfl (y_move rfl) ?_
              refine jl_y rfl (by decide) rfl (y_leq rfl rfl) ?_
              refine jl_prop (fun h41 => ?_) (fun h41 => ?_)
              · first
                | (exfalso; omega)
                | (
                  refine jl_y rfl (by decide) rfl (y_pick_true rfl rfl) ?_
                  refine jl_nil ?_
                  refine jq_then ?_
                  refine jc_true rfl ?_
                  -- region 7
                  refine jc_region ?_
                  refine jl_y rfl (by decide) rfl (y_assign rfl) ?_
                  refine jl_nil ?_
                  refine jq_then ?_
                  refine jc_seq ?_
                  -- region 8
                  refine jc_region ?_
                  refine jl_y rfl (by decide) rfl (y_move rfl) ?_
                  refine jl_y rfl (by decide) rfl (y_move rfl) ?_
                  refine jl_y rfl (by decide) rfl (y_move rfl) ?_
                  refine jl_pcall rfl (by decide) rfl (goes_func rfl) (fun w1 hw1 => pcall hw1 (count_any _ _ _ w1 (by simp only [fits] at *; omega))) ?_
                  refine jl_y rfl (by decide) rfl (y_move rfl) ?_
                  refine jl_y rfl (by decide) rfl (y_extract rfl rfl) ?_
                  refine jl_y rfl (by decide) rfl (y_extract rfl rfl) ?_
                  refine jl_y rfl (by decide) rfl (y_assign rfl) ?_
                  refine jl_y rfl (by decide) rfl (y_assign rfl) ?_
                  refine jl_nil ?_
                  refine jq_then ?_
                  refine jc_seq ?_
                  -- region 9
                  refine jc_region ?_
                  refine jl_y rfl (by decide) rfl (y_move rfl) ?_
                  refine jl_y rfl (by decide) rfl (y_move rfl) ?_
                  refine jl_y rfl (by decide) rfl (y_move rfl) ?_
                  refine jl_pcall rfl (by decide) rfl (goes_func rfl) (fun w1 hw1 => pcall hw1 (rcount_any _ _ _ w1 (by simp only [fits] at *; omega))) ?_
                  refine jl_y rfl (by decide) rfl (y_move rfl) ?_
                  refine jl_y rfl (by decide) rfl (y_extract rfl rfl) ?_
                  refine jl_y rfl (by decide) rfl (y_extract rfl rfl) ?_
                  refine jl_y rfl (by decide) rfl (y_assign rfl) ?_
                  refine jl_y rfl (by decide) rfl (y_assign rfl) ?_
                  refine jl_nil ?_
                  refine jq_then ?_
                  refine jc_seq ?_
                  -- region 10
                  refine jc_region ?_
                  refine jl_y rfl (by decide) rfl (y_indexAddr_arr rfl rfl (by omega) (by omega) (by simp only [Int.toNat_natCast, Int.reduceSub, Int.reduceAdd, Int.reduceToNat, Nat.reduceMul, Nat.reduceAdd, Nat.zero_add, Nat.mul_one, Nat.zero_mul, Nat.add_zero]; exact rfl)) ?_
                  first | refine jl_y rfl (by decide) rfl (y_load rfl (by first | exact mem0 | exact mem1 | exact mem2 | exact mem3 | exact mem4 | exact mem5) rfl) ?_ | refine jl_y rfl (by decide) rfl (y_load_row rfl (by first | exact mem0 | exact mem1 | exact mem2 | exact mem3 | exact mem4 | exact mem5) rfl) ?_ | refine jl_y rfl (by decide) rfl (y_load_old rfl (by assumption) (by simp)) ?_
                  refine jl_y rfl (by decide) rfl (y_indexAddr_arr rfl rfl (by omega) (by omega) (by simp only [Int.toNat_natCast, Int.reduceSub, Int.reduceAdd, Int.reduceToNat, Nat.reduceMul, Nat.reduceAdd, Nat.zero_add, Nat.mul_one, Nat.zero_mul, Nat.add_zero]; exact rfl)) ?_
                  first | refine jl_y rfl (by decide) rfl (y_load rfl (by first | exact mem0 | exact mem1 | exact mem2 | exact mem3 | exact mem4 | exact mem5) rfl) ?_ | refine jl_y rfl (by decide) rfl (y_load_row rfl (by first | exact mem0 | exact mem1 | exact mem2 | exact mem3 | exact mem4 | exact mem5) rfl) ?_ | refine jl_y rfl (by decide) rfl (y_load_old rfl (by assumption) (by simp)) ?_
                  first | refine jl_y rfl (by decide) rfl (y_conv_fits rfl (by simp only [fits]; omega)) ?_ | refine jl_y rfl (by decide) rfl (y_conv_u64 rfl) ?_
                  refine jl_pcall rfl (by decide) rfl (goes_func rfl) (fun w1 hw1 => pcall hw1 (value_any _ _ w1 (by simp only [fits] at *; omega) (by simp only [fits] at *; omega))) ?_
                  refine jl_y rfl (by decide) rfl (y_move rfl) ?_
                  refine jl_y rfl (by decide) rfl (y_extract rfl rfl) ?_
                  refine jl_y rfl (by decide) rfl (y_extract rfl rfl) ?_
                  refine jl_y rfl (by decide) rfl (y_assign rfl) ?_
                  refine jl_y rfl (by decide) rfl (y_assign rfl) ?_
                  refine jl_nil ?_
                  refine jq_then ?_
                  refine jc_seq ?_
                  -- region 11
                  refine jc_region ?_
                  refine jl_y rfl (by decide) rfl (y_indexAddr_arr rfl rfl (by omega) (by omega) (by simp only [Int.toNat_natCast, Int.reduceSub, Int.reduceAdd, Int.reduceToNat, Nat.reduceMul, Nat.reduceAdd, Nat.zero_add, Nat.mul_one, Nat.zero_mul, Nat.add_zero]; exact rfl)) ?_
                  first | refine jl_y rfl (by decide) rfl (y_load rfl (by first | exact mem0 | exact mem1 | exact mem2 | exact mem3 | exact mem4 | exact mem5) rfl) ?_ | refine jl_y rfl (by decide) rfl (y_load_row rfl (by first | exact mem0 | exact mem1 | exact mem2 | exact mem3 | exact mem4 | exact mem5) rfl) ?_ | refine jl_y rfl (by decide) rfl (y_load_old rfl (by assumption) (by simp)) ?_
                  refine jl_y rfl (by decide) rfl (y_indexAddr_arr rfl rfl (by omega) (by omega) (by simp only [Int.toNat_natCast, Int.reduceSub, Int.reduceAdd, Int.reduceToNat, Nat.reduceMul, Nat.reduceAdd, Nat.zero_add, Nat.mul_one, Nat.zero_mul, Nat.add_zero]; exact rfl)) ?_
                  first | refine jl_y rfl (by decide) rfl (y_load rfl (by first | exact mem0 | exact mem1 | exact mem2 | exact mem3 | exact mem4 | exact mem5) rfl) ?_ | refine jl_y rfl (by decide) rfl (y_load_row rfl (by first | exact mem0 | exact mem1 | exact mem2 | exact mem3 | exact mem4 | exact mem5) rfl) ?_ | refine jl_y rfl (by decide) rfl (y_load_old rfl (by assumption) (by simp)) ?_
                  first | refine jl_y rfl (by decide) rfl (y_conv_fits rfl (by simp only [fits]; omega)) ?_ | refine jl_y rfl (by decide) rfl (y_conv_u64 rfl) ?_
                  refine jl_pcall rfl (by decide) rfl (goes_func rfl) (fun w1 hw1 => pcall hw1 (rvalue_any _ _ w1 (by simp only [fits] at *; omega) (by simp only [fits] at *; omega))) ?_
                  refine jl_y rfl (by decide) rfl (y_move rfl) ?_
                  refine jl_y rfl (by decide) rfl (y_extract rfl rfl) ?_
                  refine jl_y rfl (by decide) rfl (y_extract rfl rfl) ?_
                  refine jl_y rfl (by decide) rfl (y_assign rfl) ?_
                  refine jl_y rfl (by decide) rfl (y_assign rfl) ?_
                  refine jl_nil ?_
                  refine jq_then ?_
                  refine jc_seq ?_
                  -- region 12
                  refine jc_region ?_
                  refine jl_y rfl (by decide) rfl (y_move rfl) ?_
                  refine jl_y rfl (by decide) rfl (y_move rfl) ?_
                  refine jl_y rfl (by decide) rfl (y_eql rfl rfl) ?_
                  refine jl_prop (fun h77 => ?_) (fun h77 => ?_)
                  · first
                    | (exfalso; omega)
                    | (
                      refine jl_y rfl (by decide) rfl (y_move rfl) ?_
                      refine jl_y rfl (by decide) rfl (y_move rfl) ?_
                      refine jl_y rfl (by decide) rfl (y_move rfl) ?_
                      refine jl_y rfl (by decide) rfl (y_eql rfl rfl) ?_
                      refine jl_prop (fun h81 => ?_) (fun h81 => ?_)
                      · first
                        | (exfalso; omega)
                        | (
                          refine jl_y rfl (by decide) rfl (y_pick_true rfl rfl) ?_
                          refine jl_y rfl (by decide) rfl (y_move rfl) ?_
                          refine jl_y rfl (by decide) rfl (y_move rfl) ?_
                          refine jl_y rfl (by decide) rfl (y_move rfl) ?_
                          refine jl_pcall rfl (by decide) rfl (goes_func rfl) (fun w1 hw1 => pcall hw1 (far_any _ _ w1 (by simp only [fits] at *; omega))) ?_
                          refine jl_y rfl (by decide) rfl (y_move rfl) ?_
                          refine jl_y rfl (by decide) rfl (y_move rfl) ?_
                          refine jl_pcall rfl (by decide) rfl (goes_func rfl) (fun w1 hw1 => pcall hw1 (rfar_any _ _ w1 (by simp only [fits] at *; omega))) ?_
                          refine jl_y rfl (by decide) rfl (y_seql rfl rfl) ?_
                          refine jl_as (u := .bool true) (congrArg (fun b => Value.bool b) (decide_eq_true (rfl))) ?_
                          refine jl_y rfl (by decide) rfl (y_pick_true rfl rfl) ?_
                          refine jl_y rfl (by decide) rfl (y_move rfl) ?_
                          refine jl_y rfl (by decide) rfl (y_move rfl) ?_
                          refine jl_y rfl (by decide) rfl (y_move rfl) ?_
                          refine jl_y rfl (by decide) rfl (y_eql rfl rfl) ?_
                          refine jl_prop (fun h95 => ?_) (fun h95 => ?_)
                          · first
                            | (exfalso; omega)
                            | (
                              refine jl_y rfl (by decide) rfl (y_pick_true rfl rfl) ?_
                              refine jl_y rfl (by decide) rfl (y_move rfl) ?_
                              refine jl_y rfl (by decide) rfl (y_move rfl) ?_
                              refine jl_y rfl (by decide) rfl (y_move rfl) ?_
                              refine jl_y rfl (by decide) rfl (y_eql rfl rfl) ?_
                              refine jl_prop (fun h100 => ?_) (fun h100 => ?_)
                              · first
                                | (exfalso; omega)
                                | (
                                  refine jl_y rfl (by decide) rfl (y_pick_true rfl rfl) ?_
                                  refine jl_y rfl (by decide) rfl (y_move rfl) ?_
                                  refine jl_pcall rfl (by decide) rfl (goes_func rfl) (fun w1 hw1 => pcall hw1 (fixed4_any w1)) ?_
                                  refine jl_y rfl (by decide) rfl (y_pick_true rfl rfl) ?_
                                  refine jl_y rfl (by decide) rfl (y_assign rfl) ?_
                                  refine jl_nil ?_
                                  refine jq_then ?_
                                  refine jc_ret ?_
                                  refine jq_ret1 rfl rfl ?_
                                  exact fun _ hw => ⟨rfl, hw.ch⟩
                                  )
                              · first
                                | (exfalso; omega)
                                | (
                                  refine jl_y rfl (by decide) rfl (y_pick_true rfl rfl) ?_
                                  refine jl_y rfl (by decide) rfl (y_move rfl) ?_
                                  refine jl_skip rfl (by decide) rfl ?_
                                  refine jl_y rfl (by decide) rfl (y_pick_false rfl rfl) ?_
                                  refine jl_y rfl (by decide) rfl (y_assign rfl) ?_
                                  refine jl_nil ?_
                                  refine jq_then ?_
                                  refine jc_ret ?_
                                  refine jq_ret1 rfl rfl ?_
                                  exact fun _ hw => ⟨rfl, hw.ch⟩
                                  )
                              )
                          · first
                            | (exfalso; omega)
                            | (
                              refine jl_y rfl (by decide) rfl (y_pick_true rfl rfl) ?_
                              refine jl_y rfl (by decide) rfl (y_move rfl) ?_
                              refine jl_skip rfl (by decide) rfl ?_
                              refine jl_skip rfl (by decide) rfl ?_
                              refine jl_skip rfl (by decide) rfl ?_
                              refine jl_y rfl (by decide) rfl (y_pick_false rfl rfl) ?_
                              refine jl_y rfl (by decide) rfl (y_move rfl) ?_
                              refine jl_skip rfl (by decide) rfl ?_
                              refine jl_y rfl (by decide) rfl (y_pick_false rfl rfl) ?_
                              refine jl_y rfl (by decide) rfl (y_assign rfl) ?_
                              refine jl_nil ?_
                              refine jq_then ?_
                              refine jc_ret ?_
                              refine jq_ret1 rfl rfl ?_
                              exact fun _ hw => ⟨rfl, hw.ch⟩
                              )
                          )
                      · first
                        | (exfalso; omega)
                        | (
                          refine jl_y rfl (by decide) rfl (y_pick_true rfl rfl) ?_
                          refine jl_y rfl (by decide) rfl (y_move rfl) ?_
                          refine jl_skip rfl (by decide) rfl ?_
                          refine jl_skip rfl (by decide) rfl ?_
                          refine jl_skip rfl (by decide) rfl ?_
                          refine jl_skip rfl (by decide) rfl ?_
                          refine jl_skip rfl (by decide) rfl ?_
                          refine jl_skip rfl (by decide) rfl ?_
                          refine jl_skip rfl (by decide) rfl ?_
                          refine jl_y rfl (by decide) rfl (y_pick_false rfl rfl) ?_
                          refine jl_y rfl (by decide) rfl (y_move rfl) ?_
                          refine jl_skip rfl (by decide) rfl ?_
                          refine jl_skip rfl (by decide) rfl ?_
                          refine jl_skip rfl (by decide) rfl ?_
                          refine jl_y rfl (by decide) rfl (y_pick_false rfl rfl) ?_
                          refine jl_y rfl (by decide) rfl (y_move rfl) ?_
                          refine jl_skip rfl (by decide) rfl ?_
                          refine jl_skip rfl (by decide) rfl ?_
                          refine jl_skip rfl (by decide) rfl ?_
                          refine jl_y rfl (by decide) rfl (y_pick_false rfl rfl) ?_
                          refine jl_y rfl (by decide) rfl (y_move rfl) ?_
                          refine jl_skip rfl (by decide) rfl ?_
                          refine jl_y rfl (by decide) rfl (y_pick_false rfl rfl) ?_
                          refine jl_y rfl (by decide) rfl (y_assign rfl) ?_
                          refine jl_nil ?_
                          refine jq_then ?_
                          refine jc_ret ?_
                          refine jq_ret1 rfl rfl ?_
                          exact fun _ hw => ⟨rfl, hw.ch⟩
                          )
                      )
                  · first
                    | (exfalso; omega)
                    | (
                      refine jl_y rfl (by decide) rfl (y_move rfl) ?_
                      refine jl_skip rfl (by decide) rfl ?_
                      refine jl_skip rfl (by decide) rfl ?_
                      refine jl_skip rfl (by decide) rfl ?_
                      refine jl_y rfl (by decide) rfl (y_pick_false rfl rfl) ?_
                      refine jl_y rfl (by decide) rfl (y_move rfl) ?_
                      refine jl_skip rfl (by decide) rfl ?_
                      refine jl_skip rfl (by decide) rfl ?_
                      refine jl_skip rfl (by decide) rfl ?_
                      refine jl_skip rfl (by decide) rfl ?_
                      refine jl_skip rfl (by decide) rfl ?_
                      refine jl_skip rfl (by decide) rfl ?_
                      refine jl_skip rfl (by decide) rfl ?_
                      refine jl_y rfl (by decide) rfl (y_pick_false rfl rfl) ?_
                      refine jl_y rfl (by decide) rfl (y_move rfl) ?_
                      refine jl_skip rfl (by decide) rfl ?_
                      refine jl_skip rfl (by decide) rfl ?_
                      refine jl_skip rfl (by decide) rfl ?_
                      refine jl_y rfl (by decide) rfl (y_pick_false rfl rfl) ?_
                      refine jl_y rfl (by decide) rfl (y_move rfl) ?_
                      refine jl_skip rfl (by decide) rfl ?_
                      refine jl_skip rfl (by decide) rfl ?_
                      refine jl_skip rfl (by decide) rfl ?_
                      refine jl_y rfl (by decide) rfl (y_pick_false rfl rfl) ?_
                      refine jl_y rfl (by decide) rfl (y_move rfl) ?_
                      refine jl_skip rfl (by decide) rfl ?_
                      refine jl_y rfl (by decide) rfl (y_pick_false rfl rfl) ?_
                      refine jl_y rfl (by decide) rfl (y_assign rfl) ?_
                      refine jl_nil ?_
                      refine jq_then ?_
                      refine jc_ret ?_
                      refine jq_ret1 rfl rfl ?_
                      exact fun _ hw => ⟨rfl, hw.ch⟩
                      )
                  )
              · first
                | (exfalso; omega)
                | (
                  refine jl_y rfl (by decide) rfl (y_pick_true rfl rfl) ?_
                  refine jl_nil ?_
                  refine jq_then ?_
                  refine jc_false rfl ?_
                  refine jc_skip ?_
                  refine jq_then ?_
                  refine jc_seq ?_
                  -- region 8
                  refine jc_region ?_
                  refine jl_y rfl (by decide) rfl (y_move rfl) ?_
                  refine jl_y rfl (by decide) rfl (y_move rfl) ?_
                  refine jl_y rfl (by decide) rfl (y_move rfl) ?_
                  refine jl_pcall rfl (by decide) rfl (goes_func rfl) (fun w1 hw1 => pcall hw1 (count_any _ _ _ w1 (by simp only [fits] at *; omega))) ?_
                  refine jl_y rfl (by decide) rfl (y_move rfl) ?_
                  refine jl_y rfl (by decide) rfl (y_extract rfl rfl) ?_
                  refine jl_y rfl (by decide) rfl (y_extract rfl rfl) ?_
                  refine jl_y rfl (by decide) rfl (y_assign rfl) ?_
                  refine jl_y rfl (by decide) rfl (y_assign rfl) ?_
                  refine jl_nil ?_
                  refine jq_then ?_
                  refine jc_seq ?_
                  -- region 9
                  refine jc_region ?_
                  refine jl_y rfl (by decide) rfl (y_move rfl) ?_
                  refine jl_y rfl (by decide) rfl (y_move rfl) ?_
                  refine jl_y rfl (by decide) rfl (y_move rfl) ?_
                  refine jl_pcall rfl (by decide) rfl (goes_func rfl) (fun w1 hw1 => pcall hw1 (rcount_any _ _ _ w1 (by simp only [fits] at *; omega))) ?_
                  refine jl_y rfl (by decide) rfl (y_move rfl) ?_
                  refine jl_y rfl (by decide) rfl (y_extract rfl rfl) ?_
                  refine jl_y rfl (by decide) rfl (y_extract rfl rfl) ?_
                  refine jl_y rfl (by decide) rfl (y_assign rfl) ?_
                  refine jl_y rfl (by decide) rfl (y_assign rfl) ?_
                  refine jl_nil ?_
                  refine jq_then ?_
                  refine jc_seq ?_
                  -- region 10
                  refine jc_region ?_
                  refine jl_y rfl (by decide) rfl (y_indexAddr_arr rfl rfl (by omega) (by omega) (by simp only [Int.toNat_natCast, Int.reduceSub, Int.reduceAdd, Int.reduceToNat, Nat.reduceMul, Nat.reduceAdd, Nat.zero_add, Nat.mul_one, Nat.zero_mul, Nat.add_zero]; exact rfl)) ?_
                  first | refine jl_y rfl (by decide) rfl (y_load rfl (by first | exact mem0 | exact mem1 | exact mem2 | exact mem3 | exact mem4 | exact mem5) rfl) ?_ | refine jl_y rfl (by decide) rfl (y_load_row rfl (by first | exact mem0 | exact mem1 | exact mem2 | exact mem3 | exact mem4 | exact mem5) rfl) ?_ | refine jl_y rfl (by decide) rfl (y_load_old rfl (by assumption) (by simp)) ?_
                  refine jl_y rfl (by decide) rfl (y_indexAddr_arr rfl rfl (by omega) (by omega) (by simp only [Int.toNat_natCast, Int.reduceSub, Int.reduceAdd, Int.reduceToNat, Nat.reduceMul, Nat.reduceAdd, Nat.zero_add, Nat.mul_one, Nat.zero_mul, Nat.add_zero]; exact rfl)) ?_
                  first | refine jl_y rfl (by decide) rfl (y_load rfl (by first | exact mem0 | exact mem1 | exact mem2 | exact mem3 | exact mem4 | exact mem5) rfl) ?_ | refine jl_y rfl (by decide) rfl (y_load_row rfl (by first | exact mem0 | exact mem1 | exact mem2 | exact mem3 | exact mem4 | exact mem5) rfl) ?_ | refine jl_y rfl (by decide) rfl (y_load_old rfl (by assumption) (by simp)) ?_
                  first | refine jl_y rfl (by decide) rfl (y_conv_fits rfl (by simp only [fits]; omega)) ?_ | refine jl_y rfl (by decide) rfl (y_conv_u64 rfl) ?_
                  refine jl_pcall rfl (by decide) rfl (goes_func rfl) (fun w1 hw1 => pcall hw1 (value_any _ _ w1 (by simp only [fits] at *; omega) (by simp only [fits] at *; omega))) ?_
                  refine jl_y rfl (by decide) rfl (y_move rfl) ?_
                  refine jl_y rfl (by decide) rfl (y_extract rfl rfl) ?_
                  refine jl_y rfl (by decide) rfl (y_extract rfl rfl) ?_
                  refine jl_y rfl (by decide) rfl (y_assign rfl) ?_
                  refine jl_y rfl (by decide) rfl (y_assign rfl) ?_
                  refine jl_nil ?_
                  refine jq_then ?_
                  refine jc_seq ?_
                  -- region 11
                  refine jc_region ?_
                  refine jl_y rfl (by decide) rfl (y_indexAddr_arr rfl rfl (by omega) (by omega) (by simp only [Int.toNat_natCast, Int.reduceSub, Int.reduceAdd, Int.reduceToNat, Nat.reduceMul, Nat.reduceAdd, Nat.zero_add, Nat.mul_one, Nat.zero_mul, Nat.add_zero]; exact rfl)) ?_
                  first | refine jl_y rfl (by decide) rfl (y_load rfl (by first | exact mem0 | exact mem1 | exact mem2 | exact mem3 | exact mem4 | exact mem5) rfl) ?_ | refine jl_y rfl (by decide) rfl (y_load_row rfl (by first | exact mem0 | exact mem1 | exact mem2 | exact mem3 | exact mem4 | exact mem5) rfl) ?_ | refine jl_y rfl (by decide) rfl (y_load_old rfl (by assumption) (by simp)) ?_
                  refine jl_y rfl (by decide) rfl (y_indexAddr_arr rfl rfl (by omega) (by omega) (by simp only [Int.toNat_natCast, Int.reduceSub, Int.reduceAdd, Int.reduceToNat, Nat.reduceMul, Nat.reduceAdd, Nat.zero_add, Nat.mul_one, Nat.zero_mul, Nat.add_zero]; exact rfl)) ?_
                  first | refine jl_y rfl (by decide) rfl (y_load rfl (by first | exact mem0 | exact mem1 | exact mem2 | exact mem3 | exact mem4 | exact mem5) rfl) ?_ | refine jl_y rfl (by decide) rfl (y_load_row rfl (by first | exact mem0 | exact mem1 | exact mem2 | exact mem3 | exact mem4 | exact mem5) rfl) ?_ | refine jl_y rfl (by decide) rfl (y_load_old rfl (by assumption) (by simp)) ?_
                  first | refine jl_y rfl (by decide) rfl (y_conv_fits rfl (by simp only [fits]; omega)) ?_ | refine jl_y rfl (by decide) rfl (y_conv_u64 rfl) ?_
                  refine jl_pcall rfl (by decide) rfl (goes_func rfl) (fun w1 hw1 => pcall hw1 (rvalue_any _ _ w1 (by simp only [fits] at *; omega) (by simp only [fits] at *; omega))) ?_
                  refine jl_y rfl (by decide) rfl (y_move rfl) ?_
                  refine jl_y rfl (by decide) rfl (y_extract rfl rfl) ?_
                  refine jl_y rfl (by decide) rfl (y_extract rfl rfl) ?_
                  refine jl_y rfl (by decide) rfl (y_assign rfl) ?_
                  refine jl_y rfl (by decide) rfl (y_assign rfl) ?_
                  refine jl_nil ?_
                  refine jq_then ?_
                  refine jc_seq ?_
                  -- region 12
                  refine jc_region ?_
                  refine jl_y rfl (by decide) rfl (y_move rfl) ?_
                  refine jl_y rfl (by decide) rfl (y_move rfl) ?_
                  refine jl_y rfl (by decide) rfl (y_eql rfl rfl) ?_
                  refine jl_prop (fun h77 => ?_) (fun h77 => ?_)
                  · first
                    | (exfalso; omega)
                    | (
                      refine jl_y rfl (by decide) rfl (y_move rfl) ?_
                      refine jl_y rfl (by decide) rfl (y_move rfl) ?_
                      refine jl_y rfl (by decide) rfl (y_move rfl) ?_
                      refine jl_y rfl (by decide) rfl (y_eql rfl rfl) ?_
                      refine jl_prop (fun h81 => ?_) (fun h81 => ?_)
                      · first
                        | (exfalso; omega)
                        | (
                          refine jl_y rfl (by decide) rfl (y_pick_true rfl rfl) ?_
                          refine jl_y rfl (by decide) rfl (y_move rfl) ?_
                          refine jl_y rfl (by decide) rfl (y_move rfl) ?_
                          refine jl_y rfl (by decide) rfl (y_move rfl) ?_
                          refine jl_pcall rfl (by decide) rfl (goes_func rfl) (fun w1 hw1 => pcall hw1 (far_any _ _ w1 (by simp only [fits] at *; omega))) ?_
                          refine jl_y rfl (by decide) rfl (y_move rfl) ?_
                          refine jl_y rfl (by decide) rfl (y_move rfl) ?_
                          refine jl_pcall rfl (by decide) rfl (goes_func rfl) (fun w1 hw1 => pcall hw1 (rfar_any _ _ w1 (by simp only [fits] at *; omega))) ?_
                          refine jl_y rfl (by decide) rfl (y_seql rfl rfl) ?_
                          refine jl_as (u := .bool true) (congrArg (fun b => Value.bool b) (decide_eq_true (rfl))) ?_
                          refine jl_y rfl (by decide) rfl (y_pick_true rfl rfl) ?_
                          refine jl_y rfl (by decide) rfl (y_move rfl) ?_
                          refine jl_y rfl (by decide) rfl (y_move rfl) ?_
                          refine jl_y rfl (by decide) rfl (y_move rfl) ?_
                          refine jl_y rfl (by decide) rfl (y_eql rfl rfl) ?_
                          refine jl_prop (fun h95 => ?_) (fun h95 => ?_)
                          · first
                            | (exfalso; omega)
                            | (
                              refine jl_y rfl (by decide) rfl (y_pick_true rfl rfl) ?_
                              refine jl_y rfl (by decide) rfl (y_move rfl) ?_
                              refine jl_y rfl (by decide) rfl (y_move rfl) ?_
                              refine jl_y rfl (by decide) rfl (y_move rfl) ?_
                              refine jl_y rfl (by decide) rfl (y_eql rfl rfl) ?_
                              refine jl_prop (fun h100 => ?_) (fun h100 => ?_)
                              · first
                                | (exfalso; omega)
                                | (
                                  refine jl_y rfl (by decide) rfl (y_pick_true rfl rfl) ?_
                                  refine jl_y rfl (by decide) rfl (y_move rfl) ?_
                                  refine jl_pcall rfl (by decide) rfl (goes_func rfl) (fun w1 hw1 => pcall hw1 (fixed4_any w1)) ?_
                                  refine jl_y rfl (by decide) rfl (y_pick_true rfl rfl) ?_
                                  refine jl_y rfl (by decide) rfl (y_assign rfl) ?_
                                  refine jl_nil ?_
                                  refine jq_then ?_
                                  refine jc_ret ?_
                                  refine jq_ret1 rfl rfl ?_
                                  exact fun _ hw => ⟨rfl, hw.ch⟩
                                  )
                              · first
                                | (exfalso; omega)
                                | (
                                  refine jl_y rfl (by decide) rfl (y_pick_true rfl rfl) ?_
                                  refine jl_y rfl (by decide) rfl (y_move rfl) ?_
                                  refine jl_skip rfl (by decide) rfl ?_
                                  refine jl_y rfl (by decide) rfl (y_pick_false rfl rfl) ?_
                                  refine jl_y rfl (by decide) rfl (y_assign rfl) ?_
                                  refine jl_nil ?_
                                  refine jq_then ?_
                                  refine jc_ret ?_
                                  refine jq_ret1 rfl rfl ?_
                                  exact fun _ hw => ⟨rfl, hw.ch⟩
                                  )
                              )
                          · first
                            | (exfalso; omega)
                            | (
                              refine jl_y rfl (by decide) rfl (y_pick_true rfl rfl) ?_
                              refine jl_y rfl (by decide) rfl (y_move rfl) ?_
                              refine jl_skip rfl (by decide) rfl ?_
                              refine jl_skip rfl (by decide) rfl ?_
                              refine jl_skip rfl (by decide) rfl ?_
                              refine jl_y rfl (by decide) rfl (y_pick_false rfl rfl) ?_
                              refine jl_y rfl (by decide) rfl (y_move rfl) ?_
                              refine jl_skip rfl (by decide) rfl ?_
                              refine jl_y rfl (by decide) rfl (y_pick_false rfl rfl) ?_
                              refine jl_y rfl (by decide) rfl (y_assign rfl) ?_
                              refine jl_nil ?_
                              refine jq_then ?_
                              refine jc_ret ?_
                              refine jq_ret1 rfl rfl ?_
                              exact fun _ hw => ⟨rfl, hw.ch⟩
                              )
                          )
                      · first
                        | (exfalso; omega)
                        | (
                          refine jl_y rfl (by decide) rfl (y_pick_true rfl rfl) ?_
                          refine jl_y rfl (by decide) rfl (y_move rfl) ?_
                          refine jl_skip rfl (by decide) rfl ?_
                          refine jl_skip rfl (by decide) rfl ?_
                          refine jl_skip rfl (by decide) rfl ?_
                          refine jl_skip rfl (by decide) rfl ?_
                          refine jl_skip rfl (by decide) rfl ?_
                          refine jl_skip rfl (by decide) rfl ?_
                          refine jl_skip rfl (by decide) rfl ?_
                          refine jl_y rfl (by decide) rfl (y_pick_false rfl rfl) ?_
                          refine jl_y rfl (by decide) rfl (y_move rfl) ?_
                          refine jl_skip rfl (by decide) rfl ?_
                          refine jl_skip rfl (by decide) rfl ?_
                          refine jl_skip rfl (by decide) rfl ?_
                          refine jl_y rfl (by decide) rfl (y_pick_false rfl rfl) ?_
                          refine jl_y rfl (by decide) rfl (y_move rfl) ?_
                          refine jl_skip rfl (by decide) rfl ?_
                          refine jl_skip rfl (by decide) rfl ?_
                          refine jl_skip rfl (by decide) rfl ?_
                          refine jl_y rfl (by decide) rfl (y_pick_false rfl rfl) ?_
                          refine jl_y rfl (by decide) rfl (y_move rfl) ?_
                          refine jl_skip rfl (by decide) rfl ?_
                          refine jl_y rfl (by decide) rfl (y_pick_false rfl rfl) ?_
                          refine jl_y rfl (by decide) rfl (y_assign rfl) ?_
                          refine jl_nil ?_
                          refine jq_then ?_
                          refine jc_ret ?_
                          refine jq_ret1 rfl rfl ?_
                          exact fun _ hw => ⟨rfl, hw.ch⟩
                          )
                      )
                  · first
                    | (exfalso; omega)
                    | (
                      refine jl_y rfl (by decide) rfl (y_move rfl) ?_
                      refine jl_skip rfl (by decide) rfl ?_
                      refine jl_skip rfl (by decide) rfl ?_
                      refine jl_skip rfl (by decide) rfl ?_
                      refine jl_y rfl (by decide) rfl (y_pick_false rfl rfl) ?_
                      refine jl_y rfl (by decide) rfl (y_move rfl) ?_
                      refine jl_skip rfl (by decide) rfl ?_
                      refine jl_skip rfl (by decide) rfl ?_
                      refine jl_skip rfl (by decide) rfl ?_
                      refine jl_skip rfl (by decide) rfl ?_
                      refine jl_skip rfl (by decide) rfl ?_
                      refine jl_skip rfl (by decide) rfl ?_
                      refine jl_skip rfl (by decide) rfl ?_
                      refine jl_y rfl (by decide) rfl (y_pick_false rfl rfl) ?_
                      refine jl_y rfl (by decide) rfl (y_move rfl) ?_
                      refine jl_skip rfl (by decide) rfl ?_
                      refine jl_skip rfl (by decide) rfl ?_
                      refine jl_skip rfl (by decide) rfl ?_
                      refine jl_y rfl (by decide) rfl (y_pick_false rfl rfl) ?_
                      refine jl_y rfl (by decide) rfl (y_move rfl) ?_
                      refine jl_skip rfl (by decide) rfl ?_
                      refine jl_skip rfl (by decide) rfl ?_
                      refine jl_skip rfl (by decide) rfl ?_
                      refine jl_y rfl (by decide) rfl (y_pick_false rfl rfl) ?_
                      refine jl_y rfl (by decide) rfl (y_move rfl) ?_
                      refine jl_skip rfl (by decide) rfl ?_
                      refine jl_y rfl (by decide) rfl (y_pick_false rfl rfl) ?_
                      refine jl_y rfl (by decide) rfl (y_assign rfl) ?_
                      refine jl_nil ?_
                      refine jq_then ?_
                      refine jc_ret ?_
                      refine jq_ret1 rfl rfl ?_
                      exact fun _ hw => ⟨rfl, hw.ch⟩
                      )
                  )
              )
          · first
            | (exfalso; omega)
            | (
              refine jl_y rfl (by decide) rfl (y_move rfl) ?_
              refine jl_skip rfl (by decide) rfl ?_
              refine jl_skip rfl (by decide) rfl ?_
              refine jl_y rfl (by decide) rfl (y_pick_false rfl rfl) ?_
              refine jl_nil ?_
              refine jq_then ?_
              refine jc_false rfl ?_
              refine jc_skip ?_
              refine jq_then ?_
              refine jc_seq ?_
              -- region 8
              refine jc_region ?_
              refine jl_y rfl (by decide) rfl (y_move rfl) ?_
              refine jl_y rfl (by decide) rfl (y_move rfl) ?_
              refine jl_y rfl (by decide) rfl (y_move rfl) ?_
              refine jl_pcall rfl (by decide) rfl (goes_func rfl) (fun w1 hw1 => pcall hw1 (count_any _ _ _ w1 (by simp only [fits] at *; omega))) ?_
              refine jl_y rfl (by decide) rfl (y_move rfl) ?_
              refine jl_y rfl (by decide) rfl (y_extract rfl rfl) ?_
              refine jl_y rfl (by decide) rfl (y_extract rfl rfl) ?_
              refine jl_y rfl (by decide) rfl (y_assign rfl) ?_
              refine jl_y rfl (by decide) rfl (y_assign rfl) ?_
              refine jl_nil ?_
              refine jq_then ?_
              refine jc_seq ?_
              -- region 9
              refine jc_region ?_
              refine jl_y rfl (by decide) rfl (y_move rfl) ?_
              refine jl_y rfl (by decide) rfl (y_move rfl) ?_
              refine jl_y rfl (by decide) rfl (y_move rfl) ?_
              refine jl_pcall rfl (by decide) rfl (goes_func rfl) (fun w1 hw1 => pcall hw1 (rcount_any _ _ _ w1 (by simp only [fits] at *; omega))) ?_
              refine jl_y rfl (by decide) rfl (y_move rfl) ?_
              refine jl_y rfl (by decide) rfl (y_extract rfl rfl) ?_
              refine jl_y rfl (by decide) rfl (y_extract rfl rfl) ?_
              refine jl_y rfl (by decide) rfl (y_assign rfl) ?_
              refine jl_y rfl (by decide) rfl (y_assign rfl) ?_
              refine jl_nil ?_
              refine jq_then ?_
              refine jc_seq ?_
              -- region 10
              refine jc_region ?_
              refine jl_y rfl (by decide) rfl (y_indexAddr_arr rfl rfl (by omega) (by omega) (by simp only [Int.toNat_natCast, Int.reduceSub, Int.reduceAdd, Int.reduceToNat, Nat.reduceMul, Nat.reduceAdd, Nat.zero_add, Nat.mul_one, Nat.zero_mul, Nat.add_zero]; exact rfl)) ?_
              first | refine jl_y rfl (by decide) rfl (y_load rfl (by first | exact mem0 | exact mem1 | exact mem2 | exact mem3 | exact mem4 | exact mem5) rfl) ?_ | refine jl_y rfl (by decide) rfl (y_load_row rfl (by first | exact mem0 | exact mem1 | exact mem2 | exact mem3 | exact mem4 | exact mem5) rfl) ?_ | refine jl_y rfl (by decide) rfl (y_load_old rfl (by assumption) (by simp)) ?_
              refine jl_y rfl (by decide) rfl (y_indexAddr_arr rfl rfl (by omega) (by omega) (by simp only [Int.toNat_natCast, Int.reduceSub, Int.reduceAdd, Int.reduceToNat, Nat.reduceMul, Nat.reduceAdd, Nat.zero_add, Nat.mul_one, Nat.zero_mul, Nat.add_zero]; exact rfl)) ?_
              first | refine jl_y rfl (by decide) rfl (y_load rfl (by first | exact mem0 | exact mem1 | exact mem2 | exact mem3 | exact mem4 | exact mem5) rfl) ?_ | refine jl_y rfl (by decide) rfl (y_load_row rfl (by first | exact mem0 | exact mem1 | exact mem2 | exact mem3 | exact mem4 | exact mem5) rfl) ?_ | refine jl_y rfl (by decide) rfl (y_load_old rfl (by assumption) (by simp)) ?_
              first | refine jl_y rfl (by decide) rfl (y_conv_fits rfl (by simp only [fits]; omega)) ?_ | refine jl_y rfl (by decide) rfl (y_conv_u64 rfl) ?_
              refine jl_pcall rfl (by decide) rfl (goes_func rfl) (fun w1 hw1 => pcall hw1 (value_any _ _ w1 (by simp only [fits] at *; omega) (by simp only [fits] at *; omega))) ?_
              refine jl_y rfl (by decide) rfl (y_move rfl) ?_
              refine jl_y rfl (by decide) rfl (y_extract rfl rfl) ?_
              refine jl_y rfl (by decide) rfl (y_extract rfl rfl) ?_
              refine jl_y rfl (by decide) rfl (y_assign rfl) ?_
              refine jl_y rfl (by decide) rfl (y_assign rfl) ?_
              refine jl_nil ?_
              refine jq_then ?_
              refine jc_seq ?_
              -- region 11
              refine jc_region ?_
              refine jl_y rfl (by decide) rfl (y_indexAddr_arr rfl rfl (by omega) (by omega) (by simp only [Int.toNat_natCast, Int.reduceSub, Int.reduceAdd, Int.reduceToNat, Nat.reduceMul, Nat.reduceAdd, Nat.zero_add, Nat.mul_one, Nat.zero_mul, Nat.add_zero]; exact rfl)) ?_
              first | refine jl_y rfl (by decide) rfl (y_load rfl (by first | exact mem0 | exact mem1 | exact mem2 | exact mem3 | exact mem4 | exact mem5) rfl) ?_ | refine jl_y rfl (by decide) rfl (y_load_row rfl (by first | exact mem0 | exact mem1 | exact mem2 | exact mem3 | exact mem4 | exact mem5) rfl) ?_ | refine jl_y rfl (by decide) rfl (y_load_old rfl (by assumption) (by simp)) ?_
              refine jl_y rfl (by decide) rfl (y_indexAddr_arr rfl rfl (by omega) (by omega) (by simp only [Int.toNat_natCast, Int.reduceSub, Int.reduceAdd, Int.reduceToNat, Nat.reduceMul, Nat.reduceAdd, Nat.zero_add, Nat.mul_one, Nat.zero_mul, Nat.add_zero]; exact rfl)) ?_
              first | refine jl_y rfl (by decide) rfl (y_load rfl (by first | exact mem0 | exact mem1 | exact mem2 | exact mem3 | exact mem4 | exact mem5) rfl) ?_ | refine jl_y rfl (by decide) rfl (y_load_row rfl (by first | exact mem0 | exact mem1 | exact mem2 | exact mem3 | exact mem4 | exact mem5) rfl) ?_ | refine jl_y rfl (by decide) rfl (y_load_old rfl (by assumption) (by simp)) ?_
              first | refine jl_y rfl (by decide) rfl (y_conv_fits rfl (by simp only [fits]; omega)) ?_ | refine jl_y rfl (by decide) rfl (y_conv_u64 rfl) ?_
              refine jl_pcall rfl (by decide) rfl (goes_func rfl) (fun w1 hw1 => pcall hw1 (rvalue_any _ _ w1 (by simp only [fits] at *; omega) (by simp only [fits] at *; omega))) ?_
              refine jl_y rfl (by decide) rfl (y_move rfl) ?_
              refine jl_y rfl (by decide) rfl (y_extract rfl rfl) ?_
              refine jl_y rfl (by decide) rfl (y_extract rfl rfl) ?_
              refine jl_y rfl (by decide) rfl (y_assign rfl) ?_
              refine jl_y rfl (by decide) rfl (y_assign rfl) ?_
              refine jl_nil ?_
              refine jq_then ?_
              refine jc_seq ?_
              -- region 12
              refine jc_region ?_
              refine jl_y rfl (by decide) rfl (y_move rfl) ?_
              refine jl_y rfl (by decide) rfl (y_move rfl) ?_
              refine jl_y rfl (by decide) rfl (y_eql rfl rfl) ?_
              refine jl_prop (fun h77 => ?_) (fun h77 => ?_)
              · first
                | (exfalso; omega)
                | (
                  refine jl_y rfl (by decide) rfl (y_move rfl) ?_
                  refine jl_y rfl (by decide) rfl (y_move rfl) ?_
                  refine jl_y rfl (by decide) rfl (y_move rfl) ?_
                  refine jl_y rfl (by decide) rfl (y_eql rfl rfl) ?_
                  refine jl_prop (fun h81 => ?_) (fun h81 => ?_)
                  · first
                    | (exfalso; omega)
                    | (
                      refine jl_y rfl (by decide) rfl (y_pick_true rfl rfl) ?_
                      refine jl_y rfl (by decide) rfl (y_move rfl) ?_
                      refine jl_y rfl (by decide) rfl (y_move rfl) ?_
                      refine jl_y rfl (by decide) rfl (y_move rfl) ?_
                      refine jl_pcall rfl (by decide) rfl (goes_func rfl) (fun w1 hw1 => pcall hw1 (far_any _ _ w1 (by simp only [fits] at *; omega))) ?_
                      refine jl_y rfl (by decide) rfl (y_move rfl) ?_
                      refine jl_y rfl (by decide) rfl (y_move rfl) ?_
                      refine jl_pcall rfl (by decide) rfl (goes_func rfl) (fun w1 hw1 => pcall hw1 (rfar_any _ _ w1 (by simp only [fits] at *; omega))) ?_
                      refine jl_y rfl (by decide) rfl (y_seql rfl rfl) ?_
                      refine jl_as (u := .bool true) (congrArg (fun b => Value.bool b) (decide_eq_true (rfl))) ?_
                      refine jl_y rfl (by decide) rfl (y_pick_true rfl rfl) ?_
                      refine jl_y rfl (by decide) rfl (y_move rfl) ?_
                      refine jl_y rfl (by decide) rfl (y_move rfl) ?_
                      refine jl_y rfl (by decide) rfl (y_move rfl) ?_
                      refine jl_y rfl (by decide) rfl (y_eql rfl rfl) ?_
                      refine jl_prop (fun h95 => ?_) (fun h95 => ?_)
                      · first
                        | (exfalso; omega)
                        | (
                          refine jl_y rfl (by decide) rfl (y_pick_true rfl rfl) ?_
                          refine jl_y rfl (by decide) rfl (y_move rfl) ?_
                          refine jl_y rfl (by decide) rfl (y_move rfl) ?_
                          refine jl_y rfl (by decide) rfl (y_move rfl) ?_
                          refine jl_y rfl (by decide) rfl (y_eql rfl rfl) ?_
                          refine jl_prop (fun h100 => ?_) (fun h100 => ?_)
                          · first
                            | (exfalso; omega)
                            | (
                              refine jl_y rfl (by decide) rfl (y_pick_true rfl rfl) ?_
                              refine jl_y rfl (by decide) rfl (y_move rfl) ?_
                              refine jl_pcall rfl (by decide) rfl (goes_func rfl) (fun w1 hw1 => pcall hw1 (fixed4_any w1)) ?_
                              refine jl_y rfl (by decide) rfl (y_pick_true rfl rfl) ?_
                              refine jl_y rfl (by decide) rfl (y_assign rfl) ?_
                              refine jl_nil ?_
                              refine jq_then ?_
                              refine jc_ret ?_
                              refine jq_ret1 rfl rfl ?_
                              exact fun _ hw => ⟨rfl, hw.ch⟩
                              )
                          · first
                            | (exfalso; omega)
                            | (
                              refine jl_y rfl (by decide) rfl (y_pick_true rfl rfl) ?_
                              refine jl_y rfl (by decide) rfl (y_move rfl) ?_
                              refine jl_skip rfl (by decide) rfl ?_
                              refine jl_y rfl (by decide) rfl (y_pick_false rfl rfl) ?_
                              refine jl_y rfl (by decide) rfl (y_assign rfl) ?_
                              refine jl_nil ?_
                              refine jq_then ?_
                              refine jc_ret ?_
                              refine jq_ret1 rfl rfl ?_
                              exact fun _ hw => ⟨rfl, hw.ch⟩
                              )
                          )
                      · first
                        | (exfalso; omega)
                        | (
                          refine jl_y rfl (by decide) rfl (y_pick_true rfl rfl) ?_
                          refine jl_y rfl (by decide) rfl (y_move rfl) ?_
                          refine jl_skip rfl (by decide) rfl ?_
                          refine jl_skip rfl (by decide) rfl ?_
                          refine jl_skip rfl (by decide) rfl ?_
                          refine jl_y rfl (by decide) rfl (y_pick_false rfl rfl) ?_
                          refine jl_y rfl (by decide) rfl (y_move rfl) ?_
                          refine jl_skip rfl (by decide) rfl ?_
                          refine jl_y rfl (by decide) rfl (y_pick_false rfl rfl) ?_
                          refine jl_y rfl (by decide) rfl (y_assign rfl) ?_
                          refine jl_nil ?_
                          refine jq_then ?_
                          refine jc_ret ?_
                          refine jq_ret1 rfl rfl ?_
                          exact fun _ hw => ⟨rfl, hw.ch⟩
                          )
                      )
                  · first
                    | (exfalso; omega)
                    | (
                      refine jl_y rfl (by decide) rfl (y_pick_true rfl rfl) ?_
                      refine jl_y rfl (by decide) rfl (y_move rfl) ?_
                      refine jl_skip rfl (by decide) rfl ?_
                      refine jl_skip rfl (by decide) rfl ?_
                      refine jl_skip rfl (by decide) rfl ?_
                      refine jl_skip rfl (by decide) rfl ?_
                      refine jl_skip rfl (by decide) rfl ?_
                      refine jl_skip rfl (by decide) rfl ?_
                      refine jl_skip rfl (by decide) rfl ?_
                      refine jl_y rfl (by decide) rfl (y_pick_false rfl rfl) ?_
                      refine jl_y rfl (by decide) rfl (y_move rfl) ?_
                      refine jl_skip rfl (by decide) rfl ?_
                      refine jl_skip rfl (by decide) rfl ?_
                      refine jl_skip rfl (by decide) rfl ?_
                      refine jl_y rfl (by decide) rfl (y_pick_false rfl rfl) ?_
                      refine jl_y rfl (by decide) rfl (y_move rfl) ?_
                      refine jl_skip rfl (by decide) rfl ?_
                      refine jl_skip rfl (by decide) rfl ?_
                      refine jl_skip rfl (by decide) rfl ?_
                      refine jl_y rfl (by decide) rfl (y_pick_false rfl rfl) ?_
                      refine jl_y rfl (by decide) rfl (y_move rfl) ?_
                      refine jl_skip rfl (by decide) rfl ?_
                      refine jl_y rfl (by decide) rfl (y_pick_false rfl rfl) ?_
                      refine jl_y rfl (by decide) rfl (y_assign rfl) ?_
                      refine jl_nil ?_
                      refine jq_then ?_
                      refine jc_ret ?_
                      refine jq_ret1 rfl rfl ?_
                      exact fun _ hw => ⟨rfl, hw.ch⟩
                      )
                  )
              · first
                | (exfalso; omega)
                | (
                  refine jl_y rfl (by decide) rfl (y_move rfl) ?_
                  refine jl_skip rfl (by decide) rfl ?_
                  refine jl_skip rfl (by decide) rfl ?_
                  refine jl_skip rfl (by decide) rfl ?_
                  refine jl_y rfl (by decide) rfl (y_pick_false rfl rfl) ?_
                  refine jl_y rfl (by decide) rfl (y_move rfl) ?_
                  refine jl_skip rfl (by decide) rfl ?_
                  refine jl_skip rfl (by decide) rfl ?_
                  refine jl_skip rfl (by decide) rfl ?_
                  refine jl_skip rfl (by decide) rfl ?_
                  refine jl_skip rfl (by decide) rfl ?_
                  refine jl_skip rfl (by decide) rfl ?_
                  refine jl_skip rfl (by decide) rfl ?_
                  refine jl_y rfl (by decide) rfl (y_pick_false rfl rfl) ?_
                  refine jl_y rfl (by decide) rfl (y_move rfl) ?_
                  refine jl_skip rfl (by decide) rfl ?_
                  refine jl_skip rfl (by decide) rfl ?_
                  refine jl_skip rfl (by decide) rfl ?_
                  refine jl_y rfl (by decide) rfl (y_pick_false rfl rfl) ?_
                  refine jl_y rfl (by decide) rfl (y_move rfl) ?_
                  refine jl_skip rfl (by decide) rfl ?_
                  refine jl_skip rfl (by decide) rfl ?_
                  refine jl_skip rfl (by decide) rfl ?_
                  refine jl_y rfl (by decide) rfl (y_pick_false rfl rfl) ?_
                  refine jl_y rfl (by decide) rfl (y_move rfl) ?_
                  refine jl_skip rfl (by decide) rfl ?_
                  refine jl_y rfl (by decide) rfl (y_pick_false rfl rfl) ?_
                  refine jl_y rfl (by decide) rfl (y_assign rfl) ?_
                  refine jl_nil ?_
                  refine jq_then ?_
                  refine jc_ret ?_
                  refine jq_ret1 rfl rfl ?_
                  exact fun _ hw => ⟨rfl, hw.ch⟩
                  )
              )
          )
      )
  · first
    | (exfalso; omega)
    | (
      refine jl_y rfl (by decide) rfl (y_move rfl) ?_
      refine jl_skip rfl (by decide) rfl ?_
      refine jl_skip rfl (by decide) rfl ?_
      refine jl_y rfl (by decide) rfl (y_pick_false rfl rfl) ?_
      refine jl_nil ?_
      refine jq_then ?_
      refine jc_false rfl ?_
      refine jc_skip ?_
      refine jq_then ?_
      refine jc_seq ?_
      refine jc_seq ?_
      -- region 6
      refine jc_region ?_
      refine jl_y rfl (by decide) rfl (y_move rfl) ?_
      refine jl_y rfl (by decide) rfl (y_gtr rfl rfl) ?_
      refine jl_prop (fun h38 => ?_) (fun h38 => ?_)
      · first
        | (exfalso; omega)
        | (
          refine jl_y rfl (by decide) rfl (y_move rfl) ?_
          refine jl_y rfl (by decide) rfl (y_move rfl) ?_
          refine jl_y rfl (by decide) rfl (y_leq rfl rfl) ?_
          refine jl_prop (fun h41 => ?_) (fun h41 => ?_)
          · first
            | (exfalso; omega)
            | (
              refine jl_y rfl (by decide) rfl (y_pick_true rfl rfl) ?_
              refine jl_nil ?_
              refine jq_then ?_
              refine jc_true rfl ?_
              -- region 7
              refine jc_region ?_
              refine jl_y rfl (by decide) rfl (y_assign rfl) ?_
              refine jl_nil ?_
              refine jq_then ?_
              refine jc_seq ?_
              -- region 8
              refine jc_region ?_
              refine jl_y rfl (by decide) rfl (y_move rfl) ?_
              refine jl_y rfl (by decide) rfl (y_move rfl) ?_
              refine jl_y rfl (by decide) rfl (y_move rfl) ?_
              refine jl_pcall rfl (by decide) rfl (goes_func rfl) (fun w1 hw1 => pcall hw1 (count_any _ _ _ w1 (by simp only [fits] at *; omega))) ?_
              refine jl_y rfl (by decide) rfl (y_move rfl) ?_
              refine jl_y rfl (by decide) rfl (y_extract rfl rfl) ?_
              refine jl_y rfl (by decide) rfl (y_extract rfl rfl) ?_
              refine jl_y rfl (by decide) rfl (y_assign rfl) ?_
              refine jl_y rfl (by decide) rfl (y_assign rfl) ?_
              refine jl_nil ?_
              refine jq_then ?_
              refine jc_seq ?_
              -- region 9
              refine jc_region ?_
              refine jl_y rfl (by decide) rfl (y_move rfl) ?_
              refine jl_y rfl (by decide) rfl (y_move rfl) ?_
              refine jl_y rfl (by decide) rfl (y_move rfl) ?_
              refine jl_pcall rfl (by decide) rfl (goes_func rfl) (fun w1 hw1 => pcall hw1 (rcount_any _ _ _ w1 (by simp only [fits] at *; omega))) ?_
              refine jl_y rfl (by decide) rfl (y_move rfl) ?_
              refine jl_y rfl (by decide) rfl (y_extract rfl rfl) ?_
              refine jl_y rfl (by decide) rfl (y_extract rfl rfl) ?_
              refine jl_y rfl (by decide) rfl (y_assign rfl) ?_
              refine jl_y rfl (by decide) rfl (y_assign rfl) ?_
              refine jl_nil ?_
              refine jq_then ?_
              refine jc_seq ?_
              -- region 10
              refine jc_region ?_
              refine jl_y rfl (by decide) rfl (y_indexAddr_arr rfl rfl (by omega) (by omega) (by simp only [Int.toNat_natCast, Int.reduceSub, Int.reduceAdd, Int.reduceToNat, Nat.reduceMul, Nat.reduceAdd, Nat.zero_add, Nat.mul_one, Nat.zero_mul, Nat.add_zero]; exact rfl)) ?_
              first | refine jl_y rfl (by decide) rfl (y_load rfl (by first | exact mem0 | exact mem1 | exact mem2 | exact mem3 | exact mem4 | exact mem5) rfl) ?_ | refine jl_y rfl (by decide) rfl (y_load_row rfl (by first | exact mem0 | exact mem1 | exact mem2 | exact mem3 | exact mem4 | exact mem5) rfl) ?_ | refine jl_y rfl (by decide) rfl (y_load_old rfl (by assumption) (by simp)) ?_
              refine jl_y rfl (by decide) rfl (y_indexAddr_arr rfl rfl (by omega) (by omega) (by simp only [Int.toNat_natCast, Int.reduceSub, Int.reduceAdd, Int.reduceToNat, Nat.reduceMul, Nat.reduceAdd, Nat.zero_add, Nat.mul_one, Nat.zero_mul, Nat.add_zero]; exact rfl)) ?_
              first | refine jl_y rfl (by decide) rfl (y_load rfl (by first | exact mem0 | exact mem1 | exact mem2 | exact mem3 | exact mem4 | exact mem5) rfl) ?_ | refine jl_y rfl (by decide) rfl (y_load_row rfl (by first | exact mem0 | exact mem1 | exact mem2 | exact mem3 | exact mem4 | exact mem5) rfl) ?_ | refine jl_y rfl (by decide) rfl (y_load_old rfl (by assumption) (by simp)) ?_
              first | refine jl_y rfl (by decide) rfl (y_conv_fits rfl (by simp only [fits]; omega)) ?_ | refine jl_y rfl (by decide) rfl (y_conv_u64 rfl) ?_
              refine jl_pcall rfl (by decide) rfl (goes_func rfl) (fun w1 hw1 => pcall hw1 (value_any _ _ w1 (by simp only [fits] at *; omega) (by simp only [fits] at *; omega))) ?_
              refine jl_y rfl (by decide) rfl (y_move rfl) ?_
              refine jl_y rfl (by decide) rfl (y_extract rfl rfl) ?_
              refine jl_y rfl (by decide) rfl (y_extract rfl rfl) ?_
              refine jl_y rfl (by decide) rfl (y_assign rfl) ?_
              refine jl_y rfl (by decide) rfl (y_assign rfl) ?_
              refine jl_nil ?_
              refine jq_then ?_
              refine jc_seq ?_
              -- region 11
              refine jc_region ?_
              refine jl_y rfl (by decide) rfl (y_indexAddr_arr rfl rfl (by omega) (by omega) (by simp only [Int.toNat_natCast, Int.reduceSub, Int.reduceAdd, Int.reduceToNat, Nat.reduceMul, Nat.reduceAdd, Nat.zero_add, Nat.mul_one, Nat.zero_mul, Nat.add_zero]; exact rfl)) ?_
              first | refine jl_y rfl (by decide) rfl (y_load rfl (by first | exact mem0 | exact mem1 | exact mem2 | exact mem3 | exact mem4 | exact mem5) rfl) ?_ | refine jl_y rfl (by decide) rfl (y_load_row rfl (by first | exact mem0 | exact mem1 | exact mem2 | exact mem3 | exact mem4 | exact mem5) rfl) ?_ | refine jl_y rfl (by decide) rfl (y_load_old rfl (by assumption) (by simp)) ?_
              refine jl_y rfl (by decide) rfl (y_indexAddr_arr rfl rfl (by omega) (by omega) (by simp only [Int.toNat_natCast, Int.reduceSub, Int.reduceAdd, Int.reduceToNat, Nat.reduceMul, Nat.reduceAdd, Nat.zero_add, Nat.mul_one, Nat.zero_mul, Nat.add_zero]; exact rfl)) ?_
              first | refine jl_y rfl (by decide) rfl (y_load rfl (by first | exact mem0 | exact mem1 | exact mem2 | exact mem3 | exact mem4 | exact mem5) rfl) ?_ | refine jl_y rfl (by decide) rfl (y_load_row rfl (by first | exact mem0 | exact mem1 | exact mem2 | exact mem3 | exact mem4 | exact mem5) rfl) ?_ | refine jl_y rfl (by decide) rfl (y_load_old rfl (by assumption) (by simp)) ?_
              first | refine jl_y rfl (by decide) rfl (y_conv_fits rfl (by simp only [fits]; omega)) ?_ | refine jl_y rfl (by decide) rfl (y_conv_u64 rfl) ?_
              refine jl_pcall rfl (by decide) rfl (goes_func rfl) (fun w1 hw1 => pcall hw1 (rvalue_any _ _ w1 (by simp only [fits] at *; omega) (by simp only [fits] at *; omega))) ?_
              refine jl_y rfl (by decide) rfl (y_move rfl) ?_
              refine jl_y rfl (by decide) rfl (y_extract rfl rfl) ?_
              refine jl_y rfl (by decide) rfl (y_extract rfl rfl) ?_
              refine jl_y rfl (by decide) rfl (y_assign rfl) ?_
              refine jl_y rfl (by decide) rfl (y_assign rfl) ?_
              refine jl_nil ?_
              refine jq_then ?_
              refine jc_seq ?_
              -- region 12
              refine jc_region ?_
              refine jl_y rfl (by decide) rfl (y_move rfl) ?_
              refine jl_y rfl (by decide) rfl (y_move rfl) ?_
              refine jl_y rfl (by decide) rfl (y_eql rfl rfl) ?_
              refine jl_prop (fun h77 => ?_) (fun h77 => ?_)
              · first
                | (exfalso; omega)
                | (
                  refine jl_y rfl (by decide) rfl (y_move rfl) ?_
                  refine jl_y rfl (by decide) rfl (y_move rfl) ?_
                  refine jl_y rfl (by decide) rfl (y_move rfl) ?_
                  refine jl_y rfl (by decide) rfl (y_eql rfl rfl) ?_
                  refine jl_prop (fun h81 => ?_) (fun h81 => ?_)
                  · first
                    | (exfalso; omega)
                    | (
                      refine jl_y rfl (by decide) rfl (y_pick_true rfl rfl) ?_
                      refine jl_y rfl (by decide) rfl (y_move rfl) ?_
                      refine jl_y rfl (by decide) rfl (y_move rfl) ?_
                      refine jl_y rfl (by decide) rfl (y_move rfl) ?_
                      refine jl_pcall rfl (by decide) rfl (goes_func rfl) (fun w1 hw1 => pcall hw1 (far_any _ _ w1 (by simp only [fits] at *; omega))) ?_
                      refine jl_y rfl (by decide) rfl (y_move rfl) ?_
                      refine jl_y rfl (by decide) rfl (y_move rfl) ?_
                      refine jl_pcall rfl (by decide) rfl (goes_func rfl) (fun w1 hw1 => pcall hw1 (rfar_any _ _ w1 (by simp only [fits] at *; omega))) ?_
                      refine jl_y rfl (by decide) rfl (y_seql rfl rfl) ?_
                      refine jl_as (u := .bool true) (congrArg (fun b => Value.bool b) (decide_eq_true (rfl))) ?_
                      refine jl_y rfl (by decide) rfl (y_pick_true rfl rfl) ?_
                      refine jl_y rfl (by decide) rfl (y_move rfl) ?_
                      refine jl_y rfl (by decide) rfl (y_move rfl) ?_
                      refine jl_y rfl (by decide) rfl (y_move rfl) ?_
                      refine jl_y rfl (by decide) rfl (y_eql rfl rfl) ?_
                      refine jl_prop (fun h95 => ?_) (fun h95 => ?_)
                      · first
                        | (exfalso; omega)
                        | (
                          refine jl_y rfl (by decide) rfl (y_pick_true rfl rfl) ?_
                          refine jl_y rfl (by decide) rfl (y_move rfl) ?_
                          refine jl_y rfl (by decide) rfl (y_move rfl) ?_
                          refine jl_y rfl (by decide) rfl (y_move rfl) ?_
                          refine jl_y rfl (by decide) rfl (y_eql rfl rfl) ?_
                          refine jl_prop (fun h100 => ?_) (fun h100 => ?_)
                          · first
                            | (exfalso; omega)
                            | (
                              refine jl_y rfl (by decide) rfl (y_pick_true rfl rfl) ?_
                              refine jl_y rfl (by decide) rfl (y_move rfl) ?_
                              refine jl_pcall rfl (by decide) rfl (goes_func rfl) (fun w1 hw1 => pcall hw1 (fixed4_any w1)) ?_
                              refine jl_y rfl (by decide) rfl (y_pick_true rfl rfl) ?_
                              refine jl_y rfl (by decide) rfl (y_assign rfl) ?_
                              refine jl_nil ?_
                              refine jq_then ?_
                              refine jc_ret ?_
                              refine jq_ret1 rfl rfl ?_
                              exact fun _ hw => ⟨rfl, hw.ch⟩
                              )
                          · first
                            | (exfalso; omega)
                            | (
                              refine jl_y rfl (by decide) rfl (y_pick_true rfl rfl) ?_
                              refine jl_y rfl (by decide) rfl (y_move rfl) ?_
                              refine jl_skip rfl (by decide) rfl ?_
                              refine jl_y rfl (by decide) rfl (y_pick_false rfl rfl) ?_
                              refine jl_y rfl (by decide) rfl (y_assign rfl) ?_
                              refine jl_nil ?_
                              refine jq_then ?_
                              refine jc_ret ?_
                              refine jq_ret1 rfl rfl ?_
                              exact fun _ hw => ⟨rfl, hw.ch⟩
                              )
                          )
                      · first
                        | (exfalso; omega)
                        | (
                          refine jl_y rfl (by decide) rfl (y_pick_true rfl rfl) ?_
                          refine jl_y rfl (by decide) rfl (y_move rfl) ?_
                          refine jl_skip rfl (by decide) rfl ?_
                          refine jl_skip rfl (by decide) rfl ?_
                          refine jl_skip rfl (by decide) rfl ?_
                          refine jl_y rfl (by decide) rfl (y_pick_false rfl rfl) ?_
                          refine jl_y rfl (by decide) rfl (y_move rfl) ?_
                          refine jl_skip rfl (by decide) rfl ?_
                          refine jl_y rfl (by decide) rfl (y_pick_false rfl rfl) ?_
                          refine jl_y rfl (by decide) rfl (y_assign rfl) ?_
                          refine jl_nil ?_
                          refine jq_then ?_
                          refine jc_ret ?_
                          refine jq_ret1 rfl rfl ?_
                          exact fun _ hw => ⟨rfl, hw.ch⟩
                          )
                      )
                  · first
                    | (exfalso; omega)
                    | (
                      refine jl_y rfl (by decide) rfl (y_pick_true rfl rfl) ?_
                      refine jl_y rfl (by decide) rfl (y_move rfl) ?_
                      refine jl_skip rfl (by decide) rfl ?_
                      refine jl_skip rfl (by decide) rfl ?_
                      refine jl_skip rfl (by decide) rfl ?_
                      refine jl_skip rfl (by decide) rfl ?_
                      refine jl_skip rfl (by decide) rfl ?_
                      refine jl_skip rfl (by decide) rfl ?_
                      refine jl_skip rfl (by decide) rfl ?_
                      refine jl_y rfl (by decide) rfl (y_pick_false rfl rfl) ?_
                      refine jl_y rfl (by decide) rfl (y_move rfl) ?_
                      refine jl_skip rfl (by decide) rfl ?_
                      refine jl_skip rfl (by decide) rfl ?_
                      refine jl_skip rfl (by decide) rfl ?_
                      refine jl_y rfl (by decide) rfl (y_pick_false rfl rfl) ?_
                      refine jl_y rfl (by decide) rfl (y_move rfl) ?_
                      refine jl_skip rfl (by decide) rfl ?_
                      refine jl_skip rfl (by decide) rfl ?_
                      refine jl_skip rfl (by decide) rfl ?_
                      refine jl_y rfl (by decide) rfl (y_pick_false rfl rfl) ?_
                      refine jl_y rfl (by decide) rfl (y_move rfl) ?_
                      refine jl_skip rfl (by decide) rfl ?_
                      refine jl_y rfl (by decide) rfl (y_pick_false rfl rfl) ?_
                      refine jl_y rfl (by decide) rfl (y_assign rfl) ?_
                      refine jl_nil ?_
                      refine jq_then ?_
                      refine jc_ret ?_
                      refine jq_ret1 rfl rfl ?_
                      exact fun _ hw => ⟨rfl, hw.ch⟩
                      )
                  )
              · first
                | (exfalso; omega)
                | (
                  refine jl_y rfl (by decide) rfl (y_move rfl) ?_
                  refine jl_skip rfl (by decide) rfl ?_
                  refine jl_skip rfl (by decide) rfl ?_
                  refine jl_skip rfl (by decide) rfl ?_
                  refine jl_y rfl (by decide) rfl (y_pick_false rfl rfl) ?_
                  refine jl_y rfl (by decide) rfl (y_move rfl) ?_
                  refine jl_skip rfl (by decide) rfl ?_
                  refine jl_skip rfl (by decide) rfl ?_
                  refine jl_skip rfl (by decide) rfl ?_
                  refine jl_skip rfl (by decide) rfl ?_
                  refine jl_skip rfl (by decide) rfl ?_
                  refine jl_skip rfl (by decide) rfl ?_
                  refine jl_skip rfl (by decide) rfl ?_
                  refine jl_y rfl (by decide) rfl (y_pick_false rfl rfl) ?_
                  refine jl_y rfl (by decide) rfl (y_move rfl) ?_
                  refine jl_skip rfl (by decide) rfl ?_
                  refine jl_skip rfl (by decide) rfl ?_
                  refine jl_skip rfl (by decide) rfl ?_
                  refine jl_y rfl (by decide) rfl (y_pick_false rfl rfl) ?_
                  refine jl_y rfl (by decide) rfl (y_move rfl) ?_
                  refine jl_skip rfl (by decide) rfl ?_
                  refine jl_skip rfl (by decide) rfl ?_
                  refine jl_skip rfl (by decide) rfl ?_
                  refine jl_y rfl (by decide) rfl (y_pick_false rfl rfl) ?_
                  refine jl_y rfl (by decide) rfl (y_move rfl) ?_
                  refine jl_skip rfl (by decide) rfl ?_
                  refine jl_y rfl (by decide) rfl (y_pick_false rfl rfl) ?_
                  refine jl_y rfl (by decide) rfl (y_assign rfl) ?_
                  refine jl_nil ?_
                  refine jq_then ?_
                  refine jc_ret ?_
                  refine jq_ret1 rfl rfl ?_
                  exact fun _ hw => ⟨rfl, hw.ch⟩
                  )
              )
          · first
            | (exfalso; omega)
            | (
              refine jl_y rfl (by decide) rfl (y_pick_true rfl rfl) ?_
              refine jl_nil ?_
              refine jq_then ?_
              refine jc_false rfl ?_
              refine jc_skip ?_
              refine jq_then ?_
              refine jc_seq ?_
              -- region 8
              refine jc_region ?_
              refine jl_y rfl (by decide) rfl (y_move rfl) ?_
              refine jl_y rfl (by decide) rfl (y_move rfl) ?_
              refine jl_y rfl (by decide) rfl (y_move rfl) ?_
              refine jl_pcall rfl (by decide) rfl (goes_func rfl) (fun w1 hw1 => pcall hw1 (count_any _ _ _ w1 (by simp only [fits] at *; omega))) ?_
              refine jl_y rfl (by decide) rfl (y_move rfl) ?_
              refine jl_y rfl (by decide) rfl (y_extract rfl rfl) ?_
              refine jl_y rfl (by decide) rfl (y_extract rfl rfl) ?_
              refine jl_y rfl (by decide) rfl (y_assign rfl) ?_
              refine jl_y rfl (by decide) rfl (y_assign rfl) ?_
              refine jl_nil ?_
              refine jq_then ?_
              refine jc_seq ?_
              -- region 9
              refine jc_region ?_
              refine jl_y rfl (by decide) rfl (y_move rfl) ?_
              refine jl_y rfl (by decide) rfl (y_move rfl) ?_
              refine jl_y rfl (by decide) rfl (y_move rfl) ?_
              refine jl_pcall rfl (by decide) rfl (goes_func rfl) (fun w1 hw1 => pcall hw1 (rcount_any _ _ _ w1 (by simp only [fits] at *; omega))) ?_
              refine jl_y rfl (by decide) rfl (y_move rfl) ?_
              refine jl_y rfl (by decide) rfl (y_extract rfl rfl) ?_
              refine jl_y rfl (by decide) rfl (y_extract rfl rfl) ?_
              refine jl_y rfl (by decide) rfl (y_assign rfl) ?_
              refine jl_y rfl (by decide) rfl (y_assign rfl) ?_
              refine jl_nil ?_
              refine jq_then ?_
              refine jc_seq ?_
              -- region 10
              refine jc_region ?_
              refine jl_y rfl (by decide) rfl (y_indexAddr_arr rfl rfl (by omega) (by omega) (by simp only [Int.toNat_natCast, Int.reduceSub, Int.reduceAdd, Int.reduceToNat, Nat.reduceMul, Nat.reduceAdd, Nat.zero_add, Nat.mul_one, Nat.zero_mul, Nat.add_zero]; exact rfl)) ?_
              first | refine jl_y rfl (by decide) rfl (y_load rfl (by first | exact mem0 | exact mem1 | exact mem2 | exact mem3 | exact mem4 | exact mem5) rfl) ?_ | refine jl_y rfl (by decide) rfl (y_load_row rfl (by first | exact mem0 | exact mem1 | exact mem2 | exact mem3 | exact mem4 | exact mem5) rfl) ?_ | refine jl_y rfl (by decide) rfl (y_load_old rfl (by assumption) (by simp)) ?_
              refine jl_y rfl (by decide) rfl (y_indexAddr_arr rfl rfl (by omega) (by omega) (by simp only [Int.toNat_natCast, Int.reduceSub, Int.reduceAdd, Int.reduceToNat, Nat.reduceMul, Nat.reduceAdd, Nat.zero_add, Nat.mul_one, Nat.zero_mul, Nat.add_zero]; exact rfl)) ?_
              first | refine jl_y rfl (by decide) rfl (y_load rfl (by first | exact mem0 | exact mem1 | exact mem2 | exact mem3 | exact mem4 | exact mem5) rfl) ?_ | refine jl_y rfl (by decide) rfl (y_load_row rfl (by first | exact mem0 | exact mem1 | exact mem2 | exact mem3 | exact mem4 | exact mem5) rfl) ?_ | refine jl_y rfl (by decide) rfl (y_load_old rfl (by assumption) (by simp)) ?_
              first | refine jl_y rfl (by decide) rfl (y_conv_fits rfl (by simp only [fits]; omega)) ?_ | refine jl_y rfl (by decide) rfl (y_conv_u64 rfl) ?_
              refine jl_pcall rfl (by decide) rfl (goes_func rfl) (fun w1 hw1 => pcall hw1 (value_any _ _ w1 (by simp only [fits] at *; omega) (by simp only [fits] at *; omega))) ?_
              refine jl_y rfl (by decide) rfl (y_move rfl) ?_
              refine jl_y rfl (by decide) rfl (y_extract rfl rfl) ?_
              refine jl_y rfl (by decide) rfl (y_extract rfl rfl) ?_
              refine jl_y rfl (by decide) rfl (y_assign rfl) ?_
              refine jl_y rfl (by decide) rfl (y_assign rfl) ?_
              refine jl_nil ?_
              refine jq_then ?_
              refine jc_seq ?_
              -- region 11
              refine jc_region ?_
              refine jl_y rfl (by decide) rfl (y_indexAddr_arr rfl rfl (by omega) (by omega) (by simp only [Int.toNat_natCast, Int.reduceSub, Int.reduceAdd, Int.reduceToNat, Nat.reduceMul, Nat.reduceAdd, Nat.zero_add, Nat.mul_one, Nat.zero_mul, Nat.add_zero]; exact rfl)) ?_
              first | refine jl_y rfl (by decide) rfl (y_load rfl (by first | exact mem0 | exact mem1 | exact mem2 | exact mem3 | exact mem4 | exact mem5) rfl) ?_ | refine jl_y rfl (by decide) rfl (y_load_row rfl (by first | exact mem0 | exact mem1 | exact mem2 | exact mem3 | exact mem4 | exact mem5) rfl) ?_ | refine jl_y rfl (by decide) rfl (y_load_old rfl (by assumption) (by simp)) ?_
              refine jl_y rfl (by decide) rfl (y_indexAddr_arr rfl rfl (by omega) (by omega) (by simp only [Int.toNat_natCast, Int.reduceSub, Int.reduceAdd, Int.reduceToNat, Nat.reduceMul, Nat.reduceAdd, Nat.zero_add, Nat.mul_one, Nat.zero_mul, Nat.add_zero]; exact rfl)) ?_
              first | refine jl_y rfl (by decide) rfl (y_load rfl (by first | exact mem0 | exact mem1 | exact mem2 | exact mem3 | exact mem4 | exact mem5) rfl) ?_ | refine jl_y rfl (by decide) rfl (y_load_row rfl (by first | exact mem0 | exact mem1 | exact mem2 | exact mem3 | exact mem4 | exact mem5) rfl) ?_ | refine jl_y rfl (by decide) rfl (y_load_old rfl (by assumption) (by simp)) ?_
              first | refine jl_y rfl (by decide) rfl (y_conv_fits rfl (by simp only [fits]; omega)) ?_ | refine jl_y rfl (by decide) rfl (y_conv_u64 rfl) ?_
              refine jl_pcall rfl (by decide) rfl (goes_func rfl) (fun w1 hw1 => pcall hw1 (rvalue_any _ _ w1 (by simp only [fits] at *; omega) (by simp only [fits] at *; omega))) ?_
              refine jl_y rfl (by decide) rfl (y_move rfl) ?_
              refine jl_y rfl (by decide) rfl (y_extract rfl rfl) ?_
              refine jl_y rfl (by decide) rfl (y_extract rfl rfl) ?_
              refine jl_y rfl (by decide) rfl (y_assign rfl) ?_
              refine jl_y rfl (by decide) rfl (y_assign rfl) ?_
              refine jl_nil ?_
              refine jq_then ?_
              refine jc_seq ?_
              -- region 12
              refine jc_region ?_
              refine jl_y rfl (by decide) rfl (y_move rfl) ?_
              refine jl_y rfl (by decide) rfl (y_move rfl) ?_
              refine jl_y rfl (by decide) rfl (y_eql rfl rfl) ?_
              refine jl_prop (fun h77 => ?_) (fun h77 => ?_)
              · first
                | (exfalso; omega)
                | (
                  refine jl_y rfl (by decide) rfl (y_move rfl) ?_
                  refine jl_y rfl (by decide) rfl (y_move rfl) ?_
                  refine jl_y rfl (by decide) rfl (y_move rfl) ?_
                  refine jl_y rfl (by decide) rfl (y_eql rfl rfl) ?_
                  refine jl_prop (fun h81 => ?_) (fun h81 => ?_)
                  · first
                    | (exfalso; omega)
                    | (
                      refine jl_y rfl (by decide) rfl (y_pick_true rfl rfl) ?_
                      refine jl_y rfl (by decide) rfl (y_move rfl) ?_
                      refine jl_y rfl (by decide) rfl (y_move rfl) ?_
                      refine jl_y rfl (by decide) rfl (y_move rfl) ?_
                      refine jl_pcall rfl (by decide) rfl (goes_func rfl) (fun w1 hw1 => pcall hw1 (far_any _ _ w1 (by simp only [fits] at *; omega))) ?_
                      refine jl_y rfl (by decide) rfl (y_move rfl) ?_
                      refine jl_y rfl (by decide) rfl (y_move rfl) ?_
                      refine jl_pcall rfl (by decide) rfl (goes_func rfl) (fun w1 hw1 => pcall hw1 (rfar_any _ _ w1 (by simp only [fits] at *; omega))) ?_
                      refine jl_y rfl (by decide) rfl (y_seql rfl rfl) ?_
                      refine jl_as (u := .bool true) (congrArg (fun b => Value.bool b) (decide_eq_true (rfl))) ?_
                      refine jl_y rfl (by decide) rfl (y_pick_true rfl rfl) ?_
                      refine jl_y rfl (by decide) rfl (y_move rfl) ?_
                      refine jl_y rfl (by decide) rfl (y_move rfl) ?_
                      refine jl_y rfl (by decide) rfl (y_move rfl) ?_
                      refine jl_y rfl (by decide) rfl (y_eql rfl rfl) ?_
                      refine jl_prop (fun h95 => ?_) (fun h95 => ?_)
                      · first
                        | (exfalso; omega)
                        | (
                          refine jl_y rfl (by decide) rfl (y_pick_true rfl rfl) ?_
                          refine jl_y rfl (by decide) rfl (y_move rfl) ?_
                          refine jl_y rfl (by decide) rfl (y_move rfl) ?_
                          refine jl_y rfl (by decide) rfl (y_move rfl) ?_
                          refine jl_y rfl (by decide) rfl (y_eql rfl rfl) ?_
                          refine jl_prop (fun h100 => ?_) (fun h100 => ?_)
                          · first
                            | (exfalso; omega)
                            | (
                              refine jl_y rfl (by decide) rfl (y_pick_true rfl rfl) ?_
                              refine jl_y rfl (by decide) rfl (y_move rfl) ?_
                              refine jl_pcall rfl (by decide) rfl (goes_func rfl) (fun w1 hw1 => pcall hw1 (fixed4_any w1)) ?_
                              refine jl_y rfl (by decide) rfl (y_pick_true rfl rfl) ?_
                              refine jl_y rfl (by decide) rfl (y_assign rfl) ?_
                              refine jl_nil ?_
                              refine jq_then ?_
                              refine jc_ret ?_
                              refine jq_ret1 rfl rfl ?_
                              exact fun _ hw => ⟨rfl, hw.ch⟩
                              )
                          · first
                            | (exfalso; omega)
                            | (
                              refine jl_y rfl (by decide) rfl (y_pick_true rfl rfl) ?_
                              refine jl_y rfl (by decide) rfl (y_move rfl) ?_
                              refine jl_skip rfl (by decide) rfl ?_
                              refine jl_y rfl (by decide) rfl (y_pick_false rfl rfl) ?_
                              refine jl_y rfl (by decide) rfl (y_assign rfl) ?_
                              refine jl_nil ?_
                              refine jq_then ?_
                              refine jc_ret ?_
                              refine jq_ret1 rfl rfl ?_
                              exact fun _ hw => ⟨rfl, hw.ch⟩
                              )
                          )
                      · first
                        | (exfalso; omega)
                        | (
                          refine jl_y rfl (by decide) rfl (y_pick_true rfl rfl) ?_
                          refine jl_y rfl (by decide) rfl (y_move rfl) ?_
                          refine jl_skip rfl (by decide) rfl ?_
                          refine jl_skip rfl (by decide) rfl ?_
                          refine jl_skip rfl (by decide) rfl ?_
                          refine jl_y rfl (by decide) rfl (y_pick_false rfl rfl) ?_
                          refine jl_y rfl (by decide) rfl (y_move rfl) ?_
                          refine jl_skip rfl (by decide) rfl ?_
                          refine jl_y rfl (by decide) rfl (y_pick_false rfl rfl) ?_
                          refine jl_y rfl (by decide) rfl (y_assign rfl) ?_
                          refine jl_nil ?_
                          refine jq_then ?_
                          refine jc_ret ?_
                          refine jq_ret1 rfl rfl ?_
                          exact fun _ hw => ⟨rfl, hw.ch⟩
                          )
                      )
                  · first
                    | (exfalso; omega)
                    | (
                      refine jl_y rfl (by decide) rfl (y_pick_true rfl rfl) ?_
                      refine jl_y rfl (by decide) rfl (y_move rfl) ?_
                      refine jl_skip rfl (by decide) rfl ?_
                      refine jl_skip rfl (by decide) rfl ?_
                      refine jl_skip rfl (by decide) rfl ?_
                      refine jl_skip rfl (by decide) rfl ?_
                      refine jl_skip rfl (by decide) rfl ?_
                      refine jl_skip rfl (by decide) rfl ?_
                      refine jl_skip rfl (by decide) rfl ?_
                      refine jl_y rfl (by decide) rfl (y_pick_false rfl rfl) ?_
                      refine jl_y rfl (by decide) rfl (y_move rfl) ?_
                      refine jl_skip rfl (by decide) rfl ?_
                      refine jl_skip rfl (by decide) rfl ?_
                      refine jl_skip rfl (by decide) rfl ?_
                      refine jl_y rfl (by decide) rfl (y_pick_false rfl rfl) ?_
                      refine jl_y rfl (by decide) rfl (y_move rfl) ?_
                      refine jl_skip rfl (by decide) rfl ?_
                      refine jl_skip rfl (by decide) rfl ?_
                      refine jl_skip rfl (by decide) rfl ?_
                      refine jl_y rfl (by decide) rfl (y_pick_false rfl rfl) ?_
                      refine jl_y rfl (by decide) rfl (y_move rfl) ?_
                      refine jl_skip rfl (by decide) rfl ?_
                      refine jl_y rfl (by decide) rfl (y_pick_false rfl rfl) ?_
                      refine jl_y rfl (by decide) rfl (y_assign rfl) ?_
                      refine jl_nil ?_
                      refine jq_then ?_
                      refine jc_ret ?_
                      refine jq_ret1 rfl rfl ?_
                      exact fun _ hw => ⟨rfl, hw.ch⟩
                      )
                  )
              · first
                | (exfalso; omega)
                | (
                  refine jl_y rfl (by decide) rfl (y_move rfl) ?_
                  refine jl_skip rfl (by decide) rfl ?_
                  refine jl_skip rfl (by decide) rfl ?_
                  refine jl_skip rfl (by decide) rfl ?_
                  refine jl_y rfl (by decide) rfl (y_pick_false rfl rfl) ?_
                  refine jl_y rfl (by decide) rfl (y_move rfl) ?_
                  refine jl_skip rfl (by decide) rfl ?_
                  refine jl_skip rfl (by decide) rfl ?_
                  refine jl_skip rfl (by decide) rfl ?_
                  refine jl_skip rfl (by decide) rfl ?_
                  refine jl_skip rfl (by decide) rfl ?_
                  refine jl_skip rfl (by decide) rfl ?_
                  refine jl_skip rfl (by decide) rfl ?_
                  refine jl_y rfl (by decide) rfl (y_pick_false rfl rfl) ?_
                  refine jl_y rfl (by decide) rfl (y_move rfl) ?_
                  refine jl_skip rfl (by decide) rfl ?_
                  refine jl_skip rfl (by decide) rfl ?_
                  refine jl_skip rfl (by decide) rfl ?_
                  refine jl_y rfl (by decide) rfl (y_pick_false rfl rfl) ?_
                  refine jl_y rfl (by decide) rfl (y_move rfl) ?_
                  refine jl_skip rfl (by decide) rfl ?_
                  refine jl_skip rfl (by decide) rfl ?_
                  refine jl_skip rfl (by decide) rfl ?_
                  refine jl_y rfl (by decide) rfl (y_pick_false rfl rfl) ?_
                  refine jl_y rfl (by decide) rfl (y_move rfl) ?_
                  refine jl_skip rfl (by decide) rfl ?_
                  refine jl_y rfl (by decide) rfl (y_pick_false rfl rfl) ?_
                  refine jl_y rfl (by decide) rfl (y_assign rfl) ?_
                  refine jl_nil ?_
                  refine jq_then ?_
                  refine jc_ret ?_
                  refine jq_ret1 rfl rfl ?_
                  exact fun _ hw => ⟨rfl, hw.ch⟩
                  )
              )
          )
      · first
        | (exfalso; omega)
        | (
          refine jl_y rfl (by decide) rfl (y_move rfl) ?_
          refine jl_skip rfl (by decide) rfl ?_
          refine jl_skip rfl (by decide) rfl ?_
          refine jl_y rfl (by decide) rfl (y_pick_false rfl rfl) ?_
          refine jl_nil ?_
          refine jq_then ?_
          refine jc_false rfl ?_
          refine jc_skip ?_
          refine jq_then ?_
          refine jc_seq ?_
          -- region 8
          refine jc_region ?_
          refine jl_y rfl (by decide) rfl (y_move rfl) ?_
          refine jl_y rfl (by decide) rfl (y_move rfl) ?_
          refine jl_y rfl (by decide) rfl (y_move rfl) ?_
          refine jl_pcall rfl (by decide) rfl (goes_func rfl) (fun w1 hw1 => pcall hw1 (count_any _ _ _ w1 (by simp only [fits] at *; omega))) ?_
          refine jl_y rfl (by decide) rfl (y_move rfl) ?_
          refine jl_y rfl (by decide) rfl (y_extract rfl rfl) ?_
          refine jl_y rfl (by decide) rfl (y_extract rfl rfl) ?_
          refine jl_y rfl (by decide) rfl (y_assign rfl) ?_
          refine jl_y rfl (by decide) rfl (y_assign rfl) ?_
          refine jl_nil ?_
          refine jq_then ?_
          refine jc_seq ?_
          -- region 9
          refine jc_region ?_
          refine jl_y rfl (by decide) rfl (y_move rfl) ?_
          refine jl_y rfl (by decide) rfl (y_move rfl) ?_
          refine jl_y rfl (by decide) rfl (y_move rfl) ?_
          refine jl_pcall rfl (by decide) rfl (goes_func rfl) (fun w1 hw1 => pcall hw1 (rcount_any _ _ _ w1 (by simp only [fits] at *; omega))) ?_
          refine jl_y rfl (by decide) rfl (y_move rfl) ?_
          refine jl_y rfl (by decide) rfl (y_extract rfl rfl) ?_
          refine jl_y rfl (by decide) rfl (y_extract rfl rfl) ?_
          refine jl_y rfl (by decide) rfl (y_assign rfl) ?_
          refine jl_y rfl (by decide) rfl (y_assign rfl) ?_
          refine jl_nil ?_
          refine jq_then ?_
          refine jc_seq ?_
          -- region 10
          refine jc_region ?_
          refine jl_y rfl (by decide) rfl (y_indexAddr_arr rfl rfl (by omega) (by omega) (by simp only [Int.toNat_natCast, Int.reduceSub, Int.reduceAdd, Int.reduceToNat, Nat.reduceMul, Nat.reduceAdd, Nat.zero_add, Nat.mul_one, Nat.zero_mul, Nat.add_zero]; exact rfl)) ?_
          first | refine jl_y rfl (by decide) rfl (y_load rfl (by first | exact mem0 | exact mem1 | exact mem2 | exact mem3 | exact mem4 | exact mem5) rfl) ?_ | refine jl_y rfl (by decide) rfl (y_load_row rfl (by first | exact mem0 | exact mem1 | exact mem2 | exact mem3 | exact mem4 | exact mem5) rfl) ?_ | refine jl_y rfl (by decide) rfl (y_load_old rfl (by assumption) (by simp)) ?_
          refine jl_y rfl (by decide) rfl (y_indexAddr_arr rfl rfl (by omega) (by omega) (by simp only [Int.toNat_natCast, Int.reduceSub, Int.reduceAdd, Int.reduceToNat, Nat.reduceMul, Nat.reduceAdd, Nat.zero_add, Nat.mul_one, Nat.zero_mul, Nat.add_zero]; exact rfl)) ?_
          first | refine jl_y rfl (by decide) rfl (y_load rfl (by first | exact mem0 | exact mem1 | exact mem2 | exact mem3 | exact mem4 | exact mem5) rfl) ?_ | refine jl_y rfl (by decide) rfl (y_load_row rfl (by first | exact mem0 | exact mem1 | exact mem2 | exact mem3 | exact mem4 | exact mem5) rfl) ?_ | refine jl_y rfl (by decide) rfl (y_load_old rfl (by assumption) (by simp)) ?_
          first | refine jl_y rfl (by decide) rfl (y_conv_fits rfl (by simp only [fits]; omega)) ?_ | refine jl_y rfl (by decide) rfl (y_conv_u64 rfl) ?_
          refine jl_pcall rfl (by decide) rfl (goes_func rfl) (fun w1 hw1 => pcall hw1 (value_any _ _ w1 (by simp only [fits] at *; omega) (by simp only [fits] at *; omega))) ?_
          refine jl_y rfl (by decide) rfl (y_move rfl) ?_
          refine jl_y rfl (by decide) rfl (y_extract rfl rfl) ?_
          refine jl_y rfl (by decide) rfl (y_extract rfl rfl) ?_
          refine jl_y rfl (by decide) rfl (y_assign rfl) ?_
          refine jl_y rfl (by decide) rfl (y_assign rfl) ?_
          refine jl_nil ?_
          refine jq_then ?_
          refine jc_seq ?_
          -- region 11
          refine jc_region ?_
          refine jl_y rfl (by decide) rfl (y_indexAddr_arr rfl rfl (by omega) (by omega) (by simp only [Int.toNat_natCast, Int.reduceSub, Int.reduceAdd, Int.reduceToNat, Nat.reduceMul, Nat.reduceAdd, Nat.zero_add, Nat.mul_one, Nat.zero_mul, Nat.add_zero]; exact rfl)) ?_
          first | refine jl_y rfl (by decide) rfl (y_load rfl (by first | exact mem0 | exact mem1 | exact mem2 | exact mem3 | exact mem4 | exact mem5) rfl) ?_ | refine jl_y rfl (by decide) rfl (y_load_row rfl (by first | exact mem0 | exact mem1 | exact mem2 | exact mem3 | exact mem4 | exact mem5) rfl) ?_ | refine jl_y rfl (by decide) rfl (y_load_old rfl (by assumption) (by simp)) ?_
          refine jl_y rfl (by decide) rfl (y_indexAddr_arr rfl rfl (by omega) (by omega) (by simp only [Int.toNat_natCast, Int.reduceSub, Int.reduceAdd, Int.reduceToNat, Nat.reduceMul, Nat.reduceAdd, Nat.zero_add, Nat.mul_one, Nat.zero_mul, Nat.add_zero]; exact rfl)) ?_
          first | refine jl_y rfl (by decide) rfl (y_load rfl (by first | exact mem0 | exact mem1 | exact mem2 | exact mem3 | exact mem4 | exact mem5) rfl) ?_ | refine jl_y rfl (by decide) rfl (y_load_row rfl (by first | exact mem0 | exact mem1 | exact mem2 | exact mem3 | exact mem4 | exact mem5) rfl) ?_ | refine jl_y rfl (by decide) rfl (y_load_old rfl (by assumption) (by simp)) ?_
          first | refine jl_y rfl (by decide) rfl (y_conv_fits rfl (by simp only [fits]; omega)) ?_ | refine jl_y rfl (by decide) rfl (y_conv_u64 rfl) ?_
          refine jl_pcall rfl (by decide) rfl (goes_func rfl) (fun w1 hw1 => pcall hw1 (rvalue_any _ _ w1 (by simp only [fits] at *; omega) (by simp only [fits] at *; omega))) ?_
          refine jl_y rfl (by decide) rfl (y_move rfl) ?_
          refine jl_y rfl (by decide) rfl (y_extract rfl rfl) ?_
          refine jl_y rfl (by decide) rfl (y_extract rfl rfl) ?_
          refine jl_y rfl (by decide) rfl (y_assign rfl) ?_
          refine jl_y rfl (by decide) rfl (y_assign rfl) ?_
          refine jl_nil ?_
          refine jq_then ?_
          refine jc_seq ?_
          -- region 12
          refine jc_region ?_
          refine jl_y rfl (by decide) rfl (y_move rfl) ?_
          refine jl_y rfl (by decide) rfl (y_move rfl) ?_
          refine jl_y rfl (by decide) rfl (y_eql rfl rfl) ?_
          refine jl_prop (fun h77 => ?_) (fun h77 => ?_)
          · first
            | (exfalso; omega)
            | (
              refine jl_y rfl (by decide) rfl (y_move rfl) ?_
              refine jl_y rfl (by decide) rfl (y_move rfl) ?_
              refine jl_y rfl (by decide) rfl (y_move rfl) ?_
              refine jl_y rfl (by decide) rfl (y_eql rfl rfl) ?_
              refine jl_prop (fun h81 => ?_) (fun h81 => ?_)
              · first
                | (exfalso; omega)
                | (
                  refine jl_y rfl (by decide) rfl (y_pick_true rfl rfl) ?_
                  refine jl_y rfl (by decide) rfl (y_move rfl) ?_
                  refine jl_y rfl (by decide) rfl (y_move rfl) ?_
                  refine jl_y rfl (by decide) rfl (y_move rfl) ?_
                  refine jl_pcall rfl (by decide) rfl (goes_func rfl) (fun w1 hw1 => pcall hw1 (far_any _ _ w1 (by simp only [fits] at *; omega))) ?_
                  refine jl_y rfl (by decide) rfl (y_move rfl) ?_
                  refine jl_y rfl (by decide) rfl (y_move rfl) ?_
                  refine jl_pcall rfl (by decide) rfl (goes_func rfl) (fun w1 hw1 => pcall hw1 (rfar_any _ _ w1 (by simp only [fits] at *; omega))) ?_
                  refine jl_y rfl (by decide) rfl (y_seql rfl rfl) ?_
                  refine jl_as (u := .bool true) (congrArg (fun b => Value.bool b) (decide_eq_true (rfl))) ?_
                  refine jl_y rfl (by decide) rfl (y_pick_true rfl rfl) ?_
                  refine jl_y rfl (by decide) rfl (y_move rfl) ?_
                  refine jl_y rfl (by decide) rfl (y_move rfl) ?_
                  refine jl_y rfl (by decide) rfl (y_move rfl) ?_
                  refine jl_y rfl (by decide) rfl (y_eql rfl rfl) ?_
                  refine jl_prop (fun h95 => ?_) (fun h95 => ?_)
                  · first
                    | (exfalso; omega)
                    | (
                      refine jl_y rfl (by decide) rfl (y_pick_true rfl rfl) ?_
                      refine jl_y rfl (by decide) rfl (y_move rfl) ?_
                      refine jl_y rfl (by decide) rfl (y_move rfl) ?_
                      refine jl_y rfl (by decide) rfl (y_move rfl) ?_
                      refine jl_y rfl (by decide) rfl (y_eql rfl rfl) ?_
                      refine jl_prop (fun h100 => ?_) (fun h100 => ?_)
                      · first
                        | (exfalso; omega)
                        | (
                          refine jl_y rfl (by decide) rfl (y_pick_true rfl rfl) ?_
                          refine jl_y rfl (by decide) rfl (y_move rfl) ?_
                          refine jl_pcall rfl (by decide) rfl (goes_func rfl) (fun w1 hw1 => pcall hw1 (fixed4_any w1)) ?_
                          refine jl_y rfl (by decide) rfl (y_pick_true rfl rfl) ?_
                          refine jl_y rfl (by decide) rfl (y_assign rfl) ?_
                          refine jl_nil ?_
                          refine jq_then ?_
                          refine jc_ret ?_
                          refine jq_ret1 rfl rfl ?_
                          exact fun _ hw => ⟨rfl, hw.ch⟩
                          )
                      · first
                        | (exfalso; omega)
                        | (
                          refine jl_y rfl (by decide) rfl (y_pick_true rfl rfl) ?_
                          refine jl_y rfl (by decide) rfl (y_move rfl) ?_
                          refine jl_skip rfl (by decide) rfl ?_
                          refine jl_y rfl (by decide) rfl (y_pick_false rfl rfl) ?_
                          refine jl_y rfl (by decide) rfl (y_assign rfl) ?_
                          refine jl_nil ?_
                          refine jq_then ?_
                          refine jc_ret ?_
                          refine jq_ret1 rfl rfl ?_
                          exact fun _ hw => ⟨rfl, hw.ch⟩
                          )
                      )
                  · first
                    | (exfalso; omega)
                    | (
                      refine jl_y rfl (by decide) rfl (y_pick_true rfl rfl) ?_
                      refine jl_y rfl (by decide) rfl (y_move rfl) ?_
                      refine jl_skip rfl (by decide) rfl ?_
                      refine jl_skip rfl (by decide) rfl ?_
                      refine jl_skip rfl (by decide) rfl ?_
                      refine jl_y rfl (by decide) rfl (y_pick_false rfl rfl) ?_
                      refine jl_y rfl (by decide) rfl (y_move rfl) ?_
                      refine jl_skip rfl (by decide) rfl ?_
                      refine jl_y rfl (by decide) rfl (y_pick_false rfl rfl) ?_
                      refine jl_y rfl (by decide) rfl (y_assign rfl) ?_
                      refine jl_nil ?_
                      refine jq_then ?_
                      refine jc_ret ?_
                      refine jq_ret1 rfl rfl ?_
                      exact fun _ hw => ⟨rfl, hw.ch⟩
                      )
                  )
              · first
                | (exfalso; omega)
                | (
                  refine jl_y rfl (by decide) rfl (y_pick_true rfl rfl) ?_
                  refine jl_y rfl (by decide) rfl (y_move rfl) ?_
                  refine jl_skip rfl (by decide) rfl ?_
                  refine jl_skip rfl (by decide) rfl ?_
                  refine jl_skip rfl (by decide) rfl ?_
                  refine jl_skip rfl (by decide) rfl ?_
                  refine jl_skip rfl (by decide) rfl ?_
                  refine jl_skip rfl (by decide) rfl ?_
                  refine jl_skip rfl (by decide) rfl ?_
                  refine jl_y rfl (by decide) rfl (y_pick_false rfl rfl) ?_
                  refine jl_y rfl (by decide) rfl (y_move rfl) ?_
                  refine jl_skip rfl (by decide) rfl ?_
                  refine jl_skip rfl (by decide) rfl ?_
                  refine jl_skip rfl (by decide) rfl ?_
                  refine jl_y rfl (by decide) rfl (y_pick_false rfl rfl) ?_
                  refine jl_y rfl (by decide) rfl (y_move rfl) ?_
                  refine jl_skip rfl (by decide) rfl ?_
                  refine jl_skip rfl (by decide) rfl ?_
                  refine jl_skip rfl (by decide) rfl ?_
                  refine jl_y rfl (by decide) rfl (y_pick_false rfl rfl) ?_
                  refine jl_y rfl (by decide) rfl (y_move rfl) ?_
                  refine jl_skip rfl (by decide) rfl ?_
                  refine jl_y rfl (by decide) rfl (y_pick_false rfl rfl) ?_
                  refine jl_y rfl (by decide) rfl (y_assign rfl) ?_
                  refine jl_nil ?_
                  refine jq_then ?_
                  refine jc_ret ?_
                  refine jq_ret1 rfl rfl ?_
                  exact fun _ hw => ⟨rfl, hw.ch⟩
                  )
              )
          · first
            | (exfalso; omega)
            | (
              refine jl_y rfl (by decide) rfl (y_move rfl) ?_
              refine jl_skip rfl (by decide) rfl ?_
              refine jl_skip rfl (by decide) rfl ?_
              refine jl_skip rfl (by decide) rfl ?_
              refine jl_y rfl (by decide) rfl (y_pick_false rfl rfl) ?_
              refine jl_y rfl (by decide) rfl (y_move rfl) ?_
              refine jl_skip rfl (by decide) rfl ?_
              refine jl_skip rfl (by decide) rfl ?_
              refine jl_skip rfl (by decide) rfl ?_
              refine jl_skip rfl (by decide) rfl ?_
              refine jl_skip rfl (by decide) rfl ?_
              refine jl_skip rfl (by decide) rfl ?_
              refine jl_skip rfl (by decide) rfl ?_
              refine jl_y rfl (by decide) rfl (y_pick_false rfl rfl) ?_
              refine jl_y rfl (by decide) rfl (y_move rfl) ?_
              refine jl_skip rfl (by decide) rfl ?_
              refine jl_skip rfl (by decide) rfl ?_
              refine jl_skip rfl (by decide) rfl ?_
              refine jl_y rfl (by decide) rfl (y_pick_false rfl rfl) ?_
              refine jl_y rfl (by decide) rfl (y_move rfl) ?_
              refine jl_skip rfl (by decide) rfl ?_
              refine jl_skip rfl (by decide) rfl ?_
              refine jl_skip rfl (by decide) rfl ?_
              refine jl_y rfl (by decide) rfl (y_pick_false rfl rfl) ?_
              refine jl_y rfl (by decide) rfl (y_move rfl) ?_
              refine jl_skip rfl (by decide) rfl ?_
              refine jl_y rfl (by decide) rfl (y_pick_false rfl rfl) ?_
              refine jl_y rfl (by decide) rfl (y_assign rfl) ?_
              refine jl_nil ?_
              refine jq_then ?_
              refine jc_ret ?_
              refine jq_ret1 rfl rfl ?_
              exact fun _ hw => ⟨rfl, hw.ch⟩
              )
          )
      )

end Go.Proofs.Ytfpihahfdmcneaa