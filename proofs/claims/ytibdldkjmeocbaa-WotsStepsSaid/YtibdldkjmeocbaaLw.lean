/- The walks of the laws of layer 6. Written by program (walk.py) out of a table of contracts and invariants. -/
import Derived.Test.YtibdldkjmeocbaaRf
import Derived.Test.YtibdldkjmeocbaaLb
namespace Go.Proofs.Ytibdldkjmeocbaa
open Go.RowKit
set_option maxRecDepth 100000
set_option linter.unusedVariables false
set_option linter.unusedSimpArgs false
def sSeed : ByteArray := ⟨#[115, 101, 101, 100]⟩
def sM : ByteArray := ⟨#[109]⟩
def sHex16 : ByteArray := ⟨#[48, 49, 50, 51, 52, 53, 54, 55, 56, 57, 97, 98, 99, 100, 101, 102]⟩

theorem fixed6_any (w : World) :
    Calls Try.prog 16 #[] w fun e w' => e = .returned (.bool true) ∧ Ch [] w w' := by
  refine calls_of (n := 106) (E := []) (W := Hp w [] []) Try.func16 rfl rfl (Nat.le_of_ble_eq_true rfl) rfl (Hp.nil _ _) ?_
  refine jc_seq ?_
  -- region 0
  refine jc_region ?_
  refine jl_y rfl (by decide) rfl (y_assign rfl) ?_
  refine jl_nil ?_
  refine jq_then ?_
  refine jc_seq ?_
  -- region 1
  refine jc_region ?_
  refine jl_pcall rfl (by decide) rfl (goes_func rfl) (fun w1 hw1 => pcall hw1 (public_any sSeed w1 (by decide))) ?_
  refine jl_pcall rfl (by decide) rfl (goes_func rfl) (fun w1 hw1 => pcall hw1 (sign_any sSeed sM w1 (by decide) (by decide))) ?_
  refine jl_y rfl (by decide) rfl (y_assign rfl) ?_
  refine jl_y rfl (by decide) rfl (y_assign rfl) ?_
  refine jl_nil ?_
  refine jq_then ?_
  refine jc_seq ?_
  -- region 2
  refine jc_region ?_
  refine jl_y rfl (by decide) rfl (y_move rfl) ?_
  refine jl_pcall rfl (by decide) rfl (goes_func rfl) (fun w1 hw1 => pcall hw1 (from_any sM _ w1 (by decide))) ?_
  refine jl_y rfl (by decide) rfl (y_move rfl) ?_
  refine jl_y rfl (by decide) rfl (y_extract rfl rfl) ?_
  refine jl_as (u := .string (pubS sSeed)) (congrArg Value.string (from_sign sSeed sM)) ?_
  refine jl_y rfl (by decide) rfl (y_extract rfl rfl) ?_
  refine jl_as (u := .int .i64 0) (congrArg (Value.int .i64) (fromE_sign sSeed sM)) ?_
  refine jl_y rfl (by decide) rfl (y_assign rfl) ?_
  refine jl_y rfl (by decide) rfl (y_assign rfl) ?_
  refine jl_nil ?_
  refine jq_then ?_
  refine jc_seq ?_
  -- region 3
  refine jc_region ?_
  refine jl_y rfl (by decide) rfl (y_move rfl) ?_
  refine jl_y rfl (by decide) rfl (y_concat rfl rfl (by have h2 : (signS sSeed sM).size = 288 := signS_size _ _; have h3 : (⟨#[120]⟩ : ByteArray).size = 1 := rfl; omega)) ?_
  refine jl_pcall rfl (by decide) rfl (goes_func rfl) (fun w1 hw1 => pcall hw1 (from_any sM _ w1 (by decide))) ?_
  refine jl_y rfl (by decide) rfl (y_move rfl) ?_
  refine jl_y rfl (by decide) rfl (y_extract rfl rfl) ?_
  refine jl_y rfl (by decide) rfl (y_extract rfl rfl) ?_
  refine jl_as (u := .int .i64 4) (congrArg (Value.int .i64) (by unfold fromE; rw [if_neg (by have h2 : (signS sSeed sM).size = 288 := signS_size _ _; have h3 : (⟨#[120]⟩ : ByteArray).size = 1 := rfl; rw [ByteArray.size_append]; omega)])) ?_
  refine jl_y rfl (by decide) rfl (y_assign rfl) ?_
  refine jl_y rfl (by decide) rfl (y_assign rfl) ?_
  refine jl_nil ?_
  refine jq_then ?_
  refine jc_seq ?_
  -- region 4
  refine jc_region ?_
  refine jl_fcall rfl (by decide) rfl (goes_func rfl) (fun w1 hw1 => digitsS_any sM w1 (by decide)) (fun bd => ?_)
  refine jl_y rfl (by decide) rfl (y_assign rfl) ?_
  refine jl_nil ?_
  refine jq_then ?_
  refine jc_seq ?_
  refine jc_seq ?_
  -- region 5
  refine jc_region ?_
  refine jl_y rfl (by decide) rfl (y_move rfl) ?_
  refine jl_y rfl (by decide) rfl (y_len_slice rfl) ?_
  refine jl_y rfl (by decide) rfl (y_neq rfl rfl) ?_
  refine jl_prop (fun h27 => ?_) (fun h27 => ?_)
  · first
    | (exfalso; omega)
    | (
      refine jl_y rfl (by decide) rfl (y_move rfl) ?_
      refine jl_skip rfl (by decide) rfl ?_
      refine jl_skip rfl (by decide) rfl ?_
      refine jl_skip rfl (by decide) rfl ?_
      refine jl_y rfl (by decide) rfl (y_pick_true rfl rfl) ?_
      refine jl_nil ?_
      refine jq_then ?_
      refine jc_true rfl ?_
      refine jc_seq ?_
      -- region 6
      refine jc_region ?_
      refine jl_y rfl (by decide) rfl (y_assign rfl) ?_
      refine jl_nil ?_
      refine jq_then ?_
      refine jc_ret ?_
      refine jq_then_ret ?_
      refine jq_ret1 rfl rfl ?_
      exact fun _ hw => ⟨rfl, hw.ch⟩
      )
  · first
    | (exfalso; omega)
    | (
      refine jl_y rfl (by decide) rfl (y_move rfl) ?_
      refine jl_y rfl (by decide) rfl (y_move rfl) ?_
      refine jl_y rfl (by decide) rfl (y_len_str rfl) ?_
      refine jl_as (u := .int .i64 288) (congrArg (Value.int .i64) (by rw [signS_size]; rfl)) ?_
      refine jl_y rfl (by decide) rfl (y_neq rfl rfl) ?_
      refine jl_prop (fun h31 => ?_) (fun h31 => ?_)
      · first
        | (exfalso; omega)
        | (
          refine jl_y rfl (by decide) rfl (y_pick_false rfl rfl) ?_
          refine jl_nil ?_
          refine jq_then ?_
          refine jc_true rfl ?_
          refine jc_seq ?_
          -- region 6
          refine jc_region ?_
          refine jl_y rfl (by decide) rfl (y_assign rfl) ?_
          refine jl_nil ?_
          refine jq_then ?_
          refine jc_ret ?_
          refine jq_then_ret ?_
          refine jq_ret1 rfl rfl ?_
          exact fun _ hw => ⟨rfl, hw.ch⟩
          )
      · first
        | (exfalso; omega)
        | (
          refine jl_y rfl (by decide) rfl (y_pick_false rfl rfl) ?_
          refine jl_nil ?_
          refine jq_then ?_
          refine jc_false rfl ?_
          refine jc_skip ?_
          refine jq_then ?_
          refine jc_seq ?_
          -- region 7
          refine jc_region ?_
          refine jl_y rfl (by decide) rfl (y_assign rfl) ?_
          refine jl_nil ?_
          refine jq_then ?_
          refine jc_seq ?_
          refine jc_seq ?_
          -- region 8
          refine jc_region ?_
          refine jl_y rfl (by decide) rfl (y_assign rfl) ?_
          refine jl_nil ?_
          refine jq_then ?_
          refine jc_block ?_
          -- a loop
          refine jc_loop (fun (i : Nat) => [(1, .string (pubS sSeed)), (2, .string (signS sSeed sM)), (3, .string (pubS sSeed)), (4, .int .i64 0), (6, .int .i64 4), (7, .slice (some ⟨bd, 0, none⟩) 18 18), (8, .int .i64 (sumD sM i)), (9, .int .i64 (i : Nat))]) (fun (i : Nat) => fun w' => i ≤ 16 ∧ Hp w [] [.cells bd ((digs sM).map (.int .i64))] w') (fun (i : Nat) => 16 - i) 0 ?_ ?_ ?_
          · exact ⟨rfl, rfl, rfl, rfl, rfl, rfl, rfl, rfl, trivial⟩
          · exact fun _ h => ⟨by omega, h⟩
          · intro i
            refine jc_and (fun hi => ?_)
            have hsd := sumD_range sM i
            have hdr := dig_range sM i
            refine jc_seq ?_
            refine jc_seq ?_
            -- region 9
            refine jc_region ?_
            refine jl_y rfl (by decide) rfl (y_move rfl) ?_
            refine jl_y rfl (by decide) rfl (y_lss rfl rfl) ?_
            refine jl_prop (fun h34 => ?_) (fun h34 => ?_)
            · first
              | (exfalso; omega)
              | (
                refine jl_nil ?_
                refine jq_then ?_
                refine jc_true rfl ?_
                refine jc_skip ?_
                refine jq_then ?_
                refine jc_seq ?_
                refine jc_block ?_
                -- region 11
                refine jc_region ?_
                refine jl_y rfl (by decide) rfl (y_move rfl) ?_
                refine jl_y rfl (by decide) rfl (y_move rfl) ?_
                refine jl_y rfl (by decide) rfl (y_move rfl) ?_
                refine jl_y rfl (by decide) rfl (y_indexAddr_slice (off := i) rfl rfl (by omega) (by omega) (by omega)) ?_
                refine jl_y rfl (by decide) rfl (y_load rfl mem0 (map_getI _ _ (by rw [digs_length]; omega))) ?_
                refine jl_as (u := .int .i64 (dig sM i)) rfl ?_
                refine jl_y rfl (by decide) rfl (y_add_fits rfl rfl (by simp only [fits]; omega)) ?_
                refine jl_y rfl (by decide) rfl (y_assign rfl) ?_
                refine jl_nil ?_
                refine jq_block ?_
                refine jq_then ?_
                -- region 10
                refine jc_region ?_
                refine jl_y rfl (by decide) rfl (y_move rfl) ?_
                refine jl_y rfl (by decide) rfl (y_add_fits rfl rfl (by simp only [fits]; omega)) ?_
                refine jl_y rfl (by decide) rfl (y_assign rfl) ?_
                refine jl_nil ?_
                refine jq_round (i := i) (i + 1) ?_ ?_ ?_
                · omega
                · exact ⟨rfl, rfl, rfl, rfl, rfl, rfl, rfl, lk_int rfl (by omega), trivial⟩
                · exact fun _ h => ⟨by omega, h⟩
                )
            · first
              | (exfalso; omega)
              | (
                refine jl_nil ?_
                refine jq_then ?_
                refine jc_false rfl ?_
                refine jc_exit ?_
                refine jq_then_exit ?_
                refine jq_then_exit ?_
                refine jq_hit ?_
                refine jq_then ?_
                refine jc_seq ?_
                -- region 12
                refine jc_region ?_
                refine jl_y rfl (by decide) rfl (y_assign rfl) ?_
                refine jl_nil ?_
                refine jq_then ?_
                refine jc_seq ?_
                -- region 13
                have hi16 : i = 16 := by omega
                subst hi16
                have hsa := sum_all sM
                have hd16 := dig_range sM 16
                have hd17 := dig_range sM 17
                refine jc_tree 63 (.step 0 true (.step 1 true (.step 2 true (.step 3 true (.step 4 true (.step 5 true (.step 6 true (.step 7 true (.step 8 true (.step 9 true (.step 10 true (.step 11 true (.step 12 true (.step 13 true (.step 14 true (.step 15 true (.step 16 true (.step 17 true (.step 18 true (.step 19 false (.step 20 true (.step 21 true (.step 22 true (.step 23 false (.step 24 true (.step 25 true (.step 26 true (.step 27 true (.step 28 true (.step 29 true (.step 30 true (.step 31 true (.step 32 true (.step 33 true (.step 34 true (.step 35 true (.step 36 true (.step 37 true (.step 38 true (.step 39 true (.step 40 true (.step 42 true (.fork 41 (.step 43 false (.step 44 false (.step 45 false (.step 46 false (.step 47 true (.step 48 true (.step 49 true (.step 50 true (.step 51 false (.step 52 true (.step 53 true (.step 54 true (.step 55 true (.step 56 false (.step 57 true (.step 58 true (.step 59 true (.step 60 false (.step 61 true (.step 62 true .nil)))))))))))))))))))) 43 (.step 41 false (.step 44 false (.step 45 false (.step 46 false (.step 47 true (.step 48 true (.step 49 true (.step 50 true (.step 51 false (.step 52 true (.step 53 true (.step 54 true (.step 55 true (.step 56 false (.step 57 true (.step 58 true (.step 59 true (.step 60 false (.step 61 true (.step 62 true .nil))))))))))))))))))))))))))))))))))))))))))))))))))))))))))))))) (by kernel_rfl) (fun _ _ _ _ h => h) (fun _ h => h.drew) ?_
                simp only [List.drop_succ_cons, List.drop_zero]
                refine jf_take rfl rfl (by decide) rfl (y_move rfl) ?_
                refine jf_take rfl rfl (by decide) rfl (y_len_str rfl) ?_
                refine jf_as (u := .int .i64 16) (congrArg (Value.int .i64) (by rw [pubS_size]; rfl)) ?_
                refine jf_take rfl rfl (by decide) rfl (y_eql rfl rfl) ?_
                refine jf_prop (fun h45 => ?_) (fun h45 => ?_)
                · first
                  | (exfalso; omega)
                  | (
                    refine jf_take rfl rfl (by decide) rfl (y_move rfl) ?_
                    refine jf_take rfl rfl (by decide) rfl (y_move rfl) ?_
                    refine jf_take rfl rfl (by decide) rfl (y_move rfl) ?_
                    refine jf_take rfl rfl (by decide) rfl (y_seql rfl rfl) ?_
                    refine jf_as (u := .bool true) (congrArg (fun b => Value.bool b) (decide_eq_true (rfl))) ?_
                    refine jf_take rfl rfl (by decide) rfl (y_pick_true rfl rfl) ?_
                    refine jf_take rfl rfl (by decide) rfl (y_move rfl) ?_
                    refine jf_take rfl rfl (by decide) rfl (y_move rfl) ?_
                    refine jf_take rfl rfl (by decide) rfl (y_eql rfl rfl) ?_
                    refine jf_prop (fun h53 => ?_) (fun h53 => ?_)
                    · first
                      | (exfalso; omega)
                      | (
                        refine jf_take rfl rfl (by decide) rfl (y_pick_true rfl rfl) ?_
                        refine jf_take rfl rfl (by decide) rfl (y_move rfl) ?_
                        refine jf_take rfl rfl (by decide) rfl (y_move rfl) ?_
                        refine jf_take rfl rfl (by decide) rfl (y_eql rfl rfl) ?_
                        refine jf_prop (fun h57 => ?_) (fun h57 => ?_)
                        · first
                          | (exfalso; omega)
                          | (
                            refine jf_take rfl rfl (by decide) rfl (y_pick_true rfl rfl) ?_
                            refine jf_take rfl rfl (by decide) rfl (y_move rfl) ?_
                            refine jf_take rfl rfl (by decide) rfl (y_move rfl) ?_
                            refine jf_take rfl rfl (by decide) rfl (y_move rfl) ?_
                            refine jf_pcall (by intro _ h; first | exact h | exact h.pop | exact h.pop.pop | exact h.pop.pop.pop | exact h.pop.pop.pop.pop | exact h.pop.pop.pop.pop.pop | exact h.pop.pop.pop.pop.pop.pop) rfl rfl (by decide) rfl (goes_func rfl) (fun w1 hw1 => pcall hw1 (verify_any _ sM (signS sSeed sM) w1 (by decide))) ?_
                            refine jf_as (u := .bool true) (congrArg Value.bool (ver_sign _ _)) ?_
                            refine jf_take rfl rfl (by decide) rfl (y_pick_true rfl rfl) ?_
                            refine jf_take rfl rfl (by decide) rfl (y_move rfl) ?_
                            refine jf_take rfl rfl (by decide) rfl (y_move rfl) ?_
                            refine jf_pcall (by intro _ h; first | exact h | exact h.pop | exact h.pop.pop | exact h.pop.pop.pop | exact h.pop.pop.pop.pop | exact h.pop.pop.pop.pop.pop | exact h.pop.pop.pop.pop.pop.pop) rfl rfl (by decide) rfl (goes_func rfl) (fun w1 hw1 => pcall hw1 (verify_any _ sM (signS sSeed sM) w1 (by decide))) ?_
                            refine jf_as (u := .bool false) (congrArg Value.bool (ver_none _ _ _ (by decide))) ?_
                            refine jf_take rfl rfl (by decide) rfl (y_not rfl) ?_
                            refine jf_take rfl rfl (by decide) rfl (y_pick_true rfl rfl) ?_
                            refine jf_take rfl rfl (by decide) rfl (y_move rfl) ?_
                            refine jf_take rfl rfl (by decide) rfl (y_move rfl) ?_
                            refine jf_take rfl rfl (by decide) rfl (y_sub_fits rfl rfl (by simp only [fits]; omega)) ?_
                            refine jf_take rfl rfl (by decide) rfl (y_move rfl) ?_
                            refine jf_take rfl rfl (by decide) rfl (y_indexAddr_slice rfl rfl (by omega) (by omega) (by simp only [Int.toNat_natCast, Int.reduceSub, Int.reduceAdd, Int.reduceToNat, Nat.reduceMul, Nat.reduceAdd, Nat.zero_add, Nat.mul_one, Nat.zero_mul, Nat.add_zero]; exact rfl)) ?_
                            refine jf_take rfl rfl (by decide) rfl (y_load rfl mem0 (map_getI _ _ (by rw [digs_length]; omega))) ?_
                            refine jf_as (u := .int .i64 (dig sM 16)) rfl ?_
                            refine jf_take rfl rfl (by decide) rfl (y_mul_fits rfl rfl (by simp only [fits]; omega)) ?_
                            refine jf_take rfl rfl (by decide) rfl (y_move rfl) ?_
                            refine jf_take rfl rfl (by decide) rfl (y_indexAddr_slice rfl rfl (by omega) (by omega) (by simp only [Int.toNat_natCast, Int.reduceSub, Int.reduceAdd, Int.reduceToNat, Nat.reduceMul, Nat.reduceAdd, Nat.zero_add, Nat.mul_one, Nat.zero_mul, Nat.add_zero]; exact rfl)) ?_
                            refine jf_take rfl rfl (by decide) rfl (y_load rfl mem0 (map_getI _ _ (by rw [digs_length]; omega))) ?_
                            refine jf_as (u := .int .i64 (dig sM 17)) rfl ?_
                            refine jf_take rfl rfl (by decide) rfl (y_add_fits rfl rfl (by simp only [fits]; omega)) ?_
                            refine jf_take rfl rfl (by decide) rfl (y_eql rfl rfl) ?_
                            refine jf_prop (fun h80 => ?_) (fun h80 => ?_)
                            · first
                              | (exfalso; omega)
                              | (
                                refine jf_take rfl rfl (by decide) rfl (y_pick_true rfl rfl) ?_
                                refine jf_take rfl rfl (by decide) rfl (y_move rfl) ?_
                                refine jf_take rfl rfl (by decide) rfl (y_move rfl) ?_
                                refine jf_take rfl rfl (by decide) rfl (y_move rfl) ?_
                                refine jf_fork ?_ ?_
                                · skip
                                  refine jf_pcall (by intro _ h; first | exact h | exact h.pop | exact h.pop.pop | exact h.pop.pop.pop | exact h.pop.pop.pop.pop | exact h.pop.pop.pop.pop.pop | exact h.pop.pop.pop.pop.pop.pop) rfl rfl (by decide) rfl (goes_func rfl) (fun w1 hw1 => pcall hw1 (wstep_any _ _ _ w1)) ?_
                                  refine jf_m (by intros; rename_i h; first | exact h | exact h.pop | exact h.pop.pop | exact h.pop.pop.pop | exact h.pop.pop.pop.pop | exact h.pop.pop.pop.pop.pop | exact h.pop.pop.pop.pop.pop.pop) rfl rfl (by decide) rfl (m_buildSlice (by decide) (Built.cell rfl rfl rfl (by repeat constructor) (Built.cell rfl rfl rfl (by repeat constructor) Built.nil))) (fun b86 => ?_)
                                  refine jf_pcall (by intro _ h; first | exact h | exact h.pop | exact h.pop.pop | exact h.pop.pop.pop | exact h.pop.pop.pop.pop | exact h.pop.pop.pop.pop.pop | exact h.pop.pop.pop.pop.pop.pop) rfl rfl (by decide) rfl (goes_func rfl) (fun w1 hw1 => pcall hw1 (tag_any strStep (some ⟨b86, 0, none⟩) 2 [⟨#[3]⟩, sHex16] w1 (by decide) (by simp) (all2 (by decide) (by decide)) (Strs.of_row (hw1.get mem0)))) ?_
                                  refine jf_m (by intros; rename_i h; first | exact h | exact h.pop | exact h.pop.pop | exact h.pop.pop.pop | exact h.pop.pop.pop.pop | exact h.pop.pop.pop.pop.pop | exact h.pop.pop.pop.pop.pop.pop) rfl rfl (by decide) rfl (m_buildSlice (by decide) (Built.cell rfl rfl rfl (by repeat constructor) (Built.cell rfl rfl rfl (by repeat constructor) Built.nil))) (fun b88 => ?_)
                                  refine jf_pcall (by intro _ h; first | exact h | exact h.pop | exact h.pop.pop | exact h.pop.pop.pop | exact h.pop.pop.pop.pop | exact h.pop.pop.pop.pop.pop | exact h.pop.pop.pop.pop.pop.pop) rfl rfl (by decide) rfl (goes_func rfl) (fun w1 hw1 => pcall hw1 (tag_any strStep (some ⟨b88, 0, none⟩) 2 [⟨#[3]⟩, tagS strStep [⟨#[3]⟩, sHex16]] w1 (by decide) (by simp) (all2 (by decide) (by rw [tagS_size]; decide)) (Strs.of_row (hw1.get mem0)))) ?_
                                  refine jf_take rfl rfl (by decide) rfl (y_seql rfl rfl) ?_
                                  refine jf_as (u := .bool true) (congrArg (fun b => Value.bool b) (decide_eq_true (by rw [stepF_pos (by decide)]; rfl))) ?_
                                  refine jf_take rfl rfl (by decide) rfl (y_pick_true rfl rfl) ?_
                                  refine jf_take rfl rfl (by decide) rfl (y_move rfl) ?_
                                  refine jf_take rfl rfl (by decide) rfl (y_move rfl) ?_
                                  refine jf_pcall (by intro _ h; first | exact h | exact h.pop | exact h.pop.pop | exact h.pop.pop.pop | exact h.pop.pop.pop.pop | exact h.pop.pop.pop.pop.pop | exact h.pop.pop.pop.pop.pop.pop) rfl rfl (by decide) rfl (goes_func rfl) (fun w1 hw1 => pcall hw1 (wstep_any _ _ _ w1)) ?_
                                  refine jf_take rfl rfl (by decide) rfl (y_seql rfl rfl) ?_
                                  refine jf_as (u := .bool true) (congrArg (fun b => Value.bool b) (decide_eq_true (stepF_neg (by decide)))) ?_
                                  refine jf_take rfl rfl (by decide) rfl (y_pick_true rfl rfl) ?_
                                  refine jf_take rfl rfl (by decide) rfl (y_move rfl) ?_
                                  refine jf_take rfl rfl (by decide) rfl (y_move rfl) ?_
                                  refine jf_pcall (by intro _ h; first | exact h | exact h.pop | exact h.pop.pop | exact h.pop.pop.pop | exact h.pop.pop.pop.pop | exact h.pop.pop.pop.pop.pop | exact h.pop.pop.pop.pop.pop.pop) rfl rfl (by decide) rfl (goes_func rfl) (fun w1 hw1 => pcall hw1 (wstep_any _ _ _ w1)) ?_
                                  refine jf_take rfl rfl (by decide) rfl (y_seql rfl rfl) ?_
                                  refine jf_as (u := .bool true) (congrArg (fun b => Value.bool b) (decide_eq_true (stepF_neg (by decide)))) ?_
                                  refine jf_take rfl rfl (by decide) rfl (y_pick_true rfl rfl) ?_
                                  refine jf_take rfl rfl (by decide) rfl (y_move rfl) ?_
                                  refine jf_pcall (by intro _ h; first | exact h | exact h.pop | exact h.pop.pop | exact h.pop.pop.pop | exact h.pop.pop.pop.pop | exact h.pop.pop.pop.pop.pop | exact h.pop.pop.pop.pop.pop.pop) rfl rfl (by decide) rfl (goes_func rfl) (fun w1 hw1 => pcall hw1 (wstep_any _ _ _ w1)) ?_
                                  refine jf_take rfl rfl (by decide) rfl (y_seql rfl rfl) ?_
                                  refine jf_as (u := .bool true) (congrArg (fun b => Value.bool b) (decide_eq_true (stepF_neg (by decide)))) ?_
                                  refine jf_take rfl rfl (by decide) rfl (y_pick_true rfl rfl) ?_
                                  refine jf_nil ?_
                                  refine jl_y rfl (by decide) rfl (y_assign rfl) ?_
                                  refine jl_nil ?_
                                  refine jq_then ?_
                                  refine jc_ret ?_
                                  refine jq_ret1 rfl rfl ?_
                                  exact fun _ hw => ⟨rfl, hw.ch⟩
                                · skip
                                  refine jf_m (by intros; rename_i h; first | exact h | exact h.pop | exact h.pop.pop | exact h.pop.pop.pop | exact h.pop.pop.pop.pop | exact h.pop.pop.pop.pop.pop | exact h.pop.pop.pop.pop.pop.pop) rfl rfl (by decide) rfl (m_buildSlice (by decide) (Built.cell rfl rfl rfl (by repeat constructor) (Built.cell rfl rfl rfl (by repeat constructor) Built.nil))) (fun b86 => ?_)
                                  refine jf_pcall (by intro _ h; first | exact h | exact h.pop | exact h.pop.pop | exact h.pop.pop.pop | exact h.pop.pop.pop.pop | exact h.pop.pop.pop.pop.pop | exact h.pop.pop.pop.pop.pop.pop) rfl rfl (by decide) rfl (goes_func rfl) (fun w1 hw1 => pcall hw1 (wstep_any _ _ _ w1)) ?_
                                  refine jf_pcall (by intro _ h; first | exact h | exact h.pop | exact h.pop.pop | exact h.pop.pop.pop | exact h.pop.pop.pop.pop | exact h.pop.pop.pop.pop.pop | exact h.pop.pop.pop.pop.pop.pop) rfl rfl (by decide) rfl (goes_func rfl) (fun w1 hw1 => pcall hw1 (tag_any strStep (some ⟨b86, 0, none⟩) 2 [⟨#[3]⟩, sHex16] w1 (by decide) (by simp) (all2 (by decide) (by decide)) (Strs.of_row (hw1.get mem0)))) ?_
                                  refine jf_m (by intros; rename_i h; first | exact h | exact h.pop | exact h.pop.pop | exact h.pop.pop.pop | exact h.pop.pop.pop.pop | exact h.pop.pop.pop.pop.pop | exact h.pop.pop.pop.pop.pop.pop) rfl rfl (by decide) rfl (m_buildSlice (by decide) (Built.cell rfl rfl rfl (by repeat constructor) (Built.cell rfl rfl rfl (by repeat constructor) Built.nil))) (fun b88 => ?_)
                                  refine jf_pcall (by intro _ h; first | exact h | exact h.pop | exact h.pop.pop | exact h.pop.pop.pop | exact h.pop.pop.pop.pop | exact h.pop.pop.pop.pop.pop | exact h.pop.pop.pop.pop.pop.pop) rfl rfl (by decide) rfl (goes_func rfl) (fun w1 hw1 => pcall hw1 (tag_any strStep (some ⟨b88, 0, none⟩) 2 [⟨#[3]⟩, tagS strStep [⟨#[3]⟩, sHex16]] w1 (by decide) (by simp) (all2 (by decide) (by rw [tagS_size]; decide)) (Strs.of_row (hw1.get mem0)))) ?_
                                  refine jf_take rfl rfl (by decide) rfl (y_seql rfl rfl) ?_
                                  refine jf_as (u := .bool true) (congrArg (fun b => Value.bool b) (decide_eq_true (by rw [stepF_pos (by decide)]; rfl))) ?_
                                  refine jf_take rfl rfl (by decide) rfl (y_pick_true rfl rfl) ?_
                                  refine jf_take rfl rfl (by decide) rfl (y_move rfl) ?_
                                  refine jf_take rfl rfl (by decide) rfl (y_move rfl) ?_
                                  refine jf_pcall (by intro _ h; first | exact h | exact h.pop | exact h.pop.pop | exact h.pop.pop.pop | exact h.pop.pop.pop.pop | exact h.pop.pop.pop.pop.pop | exact h.pop.pop.pop.pop.pop.pop) rfl rfl (by decide) rfl (goes_func rfl) (fun w1 hw1 => pcall hw1 (wstep_any _ _ _ w1)) ?_
                                  refine jf_take rfl rfl (by decide) rfl (y_seql rfl rfl) ?_
                                  refine jf_as (u := .bool true) (congrArg (fun b => Value.bool b) (decide_eq_true (stepF_neg (by decide)))) ?_
                                  refine jf_take rfl rfl (by decide) rfl (y_pick_true rfl rfl) ?_
                                  refine jf_take rfl rfl (by decide) rfl (y_move rfl) ?_
                                  refine jf_take rfl rfl (by decide) rfl (y_move rfl) ?_
                                  refine jf_pcall (by intro _ h; first | exact h | exact h.pop | exact h.pop.pop | exact h.pop.pop.pop | exact h.pop.pop.pop.pop | exact h.pop.pop.pop.pop.pop | exact h.pop.pop.pop.pop.pop.pop) rfl rfl (by decide) rfl (goes_func rfl) (fun w1 hw1 => pcall hw1 (wstep_any _ _ _ w1)) ?_
                                  refine jf_take rfl rfl (by decide) rfl (y_seql rfl rfl) ?_
                                  refine jf_as (u := .bool true) (congrArg (fun b => Value.bool b) (decide_eq_true (stepF_neg (by decide)))) ?_
                                  refine jf_take rfl rfl (by decide) rfl (y_pick_true rfl rfl) ?_
                                  refine jf_take rfl rfl (by decide) rfl (y_move rfl) ?_
                                  refine jf_pcall (by intro _ h; first | exact h | exact h.pop | exact h.pop.pop | exact h.pop.pop.pop | exact h.pop.pop.pop.pop | exact h.pop.pop.pop.pop.pop | exact h.pop.pop.pop.pop.pop.pop) rfl rfl (by decide) rfl (goes_func rfl) (fun w1 hw1 => pcall hw1 (wstep_any _ _ _ w1)) ?_
                                  refine jf_take rfl rfl (by decide) rfl (y_seql rfl rfl) ?_
                                  refine jf_as (u := .bool true) (congrArg (fun b => Value.bool b) (decide_eq_true (stepF_neg (by decide)))) ?_
                                  refine jf_take rfl rfl (by decide) rfl (y_pick_true rfl rfl) ?_
                                  refine jf_nil ?_
                                  refine jl_y rfl (by decide) rfl (y_assign rfl) ?_
                                  refine jl_nil ?_
                                  refine jq_then ?_
                                  refine jc_ret ?_
                                  refine jq_ret1 rfl rfl ?_
                                  exact fun _ hw => ⟨rfl, hw.ch⟩
                                )
                            · first
                              | (exfalso; omega)
                              | (
                                refine jf_take rfl rfl (by decide) rfl (y_pick_true rfl rfl) ?_
                                refine jf_take rfl rfl (by decide) rfl (y_move rfl) ?_
                                refine jf_take_skip rfl rfl (by decide) rfl ?_
                                refine jf_take_skip rfl rfl (by decide) rfl ?_
                                refine jf_fork ?_ ?_
                                · skip
                                  refine jf_skip rfl rfl (by decide) rfl ?_
                                  refine jf_skip rfl rfl (by decide) rfl ?_
                                  refine jf_skip rfl rfl (by decide) rfl ?_
                                  refine jf_skip rfl rfl (by decide) rfl ?_
                                  refine jf_skip rfl rfl (by decide) rfl ?_
                                  refine jf_take_skip rfl rfl (by decide) rfl ?_
                                  refine jf_take rfl rfl (by decide) rfl (y_pick_false rfl rfl) ?_
                                  refine jf_take rfl rfl (by decide) rfl (y_move rfl) ?_
                                  refine jf_take_skip rfl rfl (by decide) rfl ?_
                                  refine jf_skip rfl rfl (by decide) rfl ?_
                                  refine jf_take_skip rfl rfl (by decide) rfl ?_
                                  refine jf_take rfl rfl (by decide) rfl (y_pick_false rfl rfl) ?_
                                  refine jf_take rfl rfl (by decide) rfl (y_move rfl) ?_
                                  refine jf_take_skip rfl rfl (by decide) rfl ?_
                                  refine jf_skip rfl rfl (by decide) rfl ?_
                                  refine jf_take_skip rfl rfl (by decide) rfl ?_
                                  refine jf_take rfl rfl (by decide) rfl (y_pick_false rfl rfl) ?_
                                  refine jf_take rfl rfl (by decide) rfl (y_move rfl) ?_
                                  refine jf_skip rfl rfl (by decide) rfl ?_
                                  refine jf_take_skip rfl rfl (by decide) rfl ?_
                                  refine jf_take rfl rfl (by decide) rfl (y_pick_false rfl rfl) ?_
                                  refine jf_nil ?_
                                  refine jl_y rfl (by decide) rfl (y_assign rfl) ?_
                                  refine jl_nil ?_
                                  refine jq_then ?_
                                  refine jc_ret ?_
                                  refine jq_ret1 rfl rfl ?_
                                  exact fun _ hw => ⟨rfl, hw.ch⟩
                                · skip
                                  refine jf_skip rfl rfl (by decide) rfl ?_
                                  refine jf_skip rfl rfl (by decide) rfl ?_
                                  refine jf_skip rfl rfl (by decide) rfl ?_
                                  refine jf_skip rfl rfl (by decide) rfl ?_
                                  refine jf_skip rfl rfl (by decide) rfl ?_
                                  refine jf_take_skip rfl rfl (by decide) rfl ?_
                                  refine jf_take rfl rfl (by decide) rfl (y_pick_false rfl rfl) ?_
                                  refine jf_take rfl rfl (by decide) rfl (y_move rfl) ?_
                                  refine jf_take_skip rfl rfl (by decide) rfl ?_
                                  refine jf_skip rfl rfl (by decide) rfl ?_
                                  refine jf_take_skip rfl rfl (by decide) rfl ?_
                                  refine jf_take rfl rfl (by decide) rfl (y_pick_false rfl rfl) ?_
                                  refine jf_take rfl rfl (by decide) rfl (y_move rfl) ?_
                                  refine jf_take_skip rfl rfl (by decide) rfl ?_
                                  refine jf_skip rfl rfl (by decide) rfl ?_
                                  refine jf_take_skip rfl rfl (by decide) rfl ?_
                                  refine jf_take rfl rfl (by decide) rfl (y_pick_false rfl rfl) ?_
                                  refine jf_take rfl rfl (by decide) rfl (y_move rfl) ?_
                                  refine jf_skip rfl rfl (by decide) rfl ?_
                                  refine jf_take_skip rfl rfl (by decide) rfl ?_
                                  refine jf_take rfl rfl (by decide) rfl (y_pick_false rfl rfl) ?_
                                  refine jf_nil ?_
                                  refine jl_y rfl (by decide) rfl (y_assign rfl) ?_
                                  refine jl_nil ?_
                                  refine jq_then ?_
                                  refine jc_ret ?_
                                  refine jq_ret1 rfl rfl ?_
                                  exact fun _ hw => ⟨rfl, hw.ch⟩
                                )
                            )
                        · first
                          | (exfalso; omega)
                          | (
                            refine jf_take rfl rfl (by decide) rfl (y_pick_true rfl rfl) ?_
                            refine jf_take rfl rfl (by decide) rfl (y_move rfl) ?_
                            refine jf_take_skip rfl rfl (by decide) rfl ?_
                            refine jf_take_skip rfl rfl (by decide) rfl ?_
                            refine jf_skip rfl rfl (by decide) rfl ?_
                            refine jf_take rfl rfl (by decide) rfl (y_pick_false rfl rfl) ?_
                            refine jf_take rfl rfl (by decide) rfl (y_move rfl) ?_
                            refine jf_take_skip rfl rfl (by decide) rfl ?_
                            refine jf_skip rfl rfl (by decide) rfl ?_
                            refine jf_take_skip rfl rfl (by decide) rfl ?_
                            refine jf_take rfl rfl (by decide) rfl (y_pick_false rfl rfl) ?_
                            refine jf_take rfl rfl (by decide) rfl (y_move rfl) ?_
                            refine jf_take_skip rfl rfl (by decide) rfl ?_
                            refine jf_take_skip rfl rfl (by decide) rfl ?_
                            refine jf_take_skip rfl rfl (by decide) rfl ?_
                            refine jf_take_skip rfl rfl (by decide) rfl ?_
                            refine jf_take_skip rfl rfl (by decide) rfl ?_
                            refine jf_take_skip rfl rfl (by decide) rfl ?_
                            refine jf_take_skip rfl rfl (by decide) rfl ?_
                            refine jf_take_skip rfl rfl (by decide) rfl ?_
                            refine jf_take_skip rfl rfl (by decide) rfl ?_
                            refine jf_take_skip rfl rfl (by decide) rfl ?_
                            refine jf_take_skip rfl rfl (by decide) rfl ?_
                            refine jf_take rfl rfl (by decide) rfl (y_pick_false rfl rfl) ?_
                            refine jf_take rfl rfl (by decide) rfl (y_move rfl) ?_
                            refine jf_take_skip rfl rfl (by decide) rfl ?_
                            refine jf_take_skip rfl rfl (by decide) rfl ?_
                            refine jf_fork ?_ ?_
                            · skip
                              refine jf_skip rfl rfl (by decide) rfl ?_
                              refine jf_skip rfl rfl (by decide) rfl ?_
                              refine jf_skip rfl rfl (by decide) rfl ?_
                              refine jf_skip rfl rfl (by decide) rfl ?_
                              refine jf_skip rfl rfl (by decide) rfl ?_
                              refine jf_take_skip rfl rfl (by decide) rfl ?_
                              refine jf_take rfl rfl (by decide) rfl (y_pick_false rfl rfl) ?_
                              refine jf_take rfl rfl (by decide) rfl (y_move rfl) ?_
                              refine jf_take_skip rfl rfl (by decide) rfl ?_
                              refine jf_skip rfl rfl (by decide) rfl ?_
                              refine jf_take_skip rfl rfl (by decide) rfl ?_
                              refine jf_take rfl rfl (by decide) rfl (y_pick_false rfl rfl) ?_
                              refine jf_take rfl rfl (by decide) rfl (y_move rfl) ?_
                              refine jf_take_skip rfl rfl (by decide) rfl ?_
                              refine jf_skip rfl rfl (by decide) rfl ?_
                              refine jf_take_skip rfl rfl (by decide) rfl ?_
                              refine jf_take rfl rfl (by decide) rfl (y_pick_false rfl rfl) ?_
                              refine jf_take rfl rfl (by decide) rfl (y_move rfl) ?_
                              refine jf_skip rfl rfl (by decide) rfl ?_
                              refine jf_take_skip rfl rfl (by decide) rfl ?_
                              refine jf_take rfl rfl (by decide) rfl (y_pick_false rfl rfl) ?_
                              refine jf_nil ?_
                              refine jl_y rfl (by decide) rfl (y_assign rfl) ?_
                              refine jl_nil ?_
                              refine jq_then ?_
                              refine jc_ret ?_
                              refine jq_ret1 rfl rfl ?_
                              exact fun _ hw => ⟨rfl, hw.ch⟩
                            · skip
                              refine jf_skip rfl rfl (by decide) rfl ?_
                              refine jf_skip rfl rfl (by decide) rfl ?_
                              refine jf_skip rfl rfl (by decide) rfl ?_
                              refine jf_skip rfl rfl (by decide) rfl ?_
                              refine jf_skip rfl rfl (by decide) rfl ?_
                              refine jf_take_skip rfl rfl (by decide) rfl ?_
                              refine jf_take rfl rfl (by decide) rfl (y_pick_false rfl rfl) ?_
                              refine jf_take rfl rfl (by decide) rfl (y_move rfl) ?_
                              refine jf_take_skip rfl rfl (by decide) rfl ?_
                              refine jf_skip rfl rfl (by decide) rfl ?_
                              refine jf_take_skip rfl rfl (by decide) rfl ?_
                              refine jf_take rfl rfl (by decide) rfl (y_pick_false rfl rfl) ?_
                              refine jf_take rfl rfl (by decide) rfl (y_move rfl) ?_
                              refine jf_take_skip rfl rfl (by decide) rfl ?_
                              refine jf_skip rfl rfl (by decide) rfl ?_
                              refine jf_take_skip rfl rfl (by decide) rfl ?_
                              refine jf_take rfl rfl (by decide) rfl (y_pick_false rfl rfl) ?_
                              refine jf_take rfl rfl (by decide) rfl (y_move rfl) ?_
                              refine jf_skip rfl rfl (by decide) rfl ?_
                              refine jf_take_skip rfl rfl (by decide) rfl ?_
                              refine jf_take rfl rfl (by decide) rfl (y_pick_false rfl rfl) ?_
                              refine jf_nil ?_
                              refine jl_y rfl (by decide) rfl (y_assign rfl) ?_
                              refine jl_nil ?_
                              refine jq_then ?_
                              refine jc_ret ?_
                              refine jq_ret1 rfl rfl ?_
                              exact fun _ hw => ⟨rfl, hw.ch⟩
                            )
                        )
                    · first
                      | (exfalso; omega)
                      | (
                        refine jf_take rfl rfl (by decide) rfl (y_pick_true rfl rfl) ?_
                        refine jf_take rfl rfl (by decide) rfl (y_move rfl) ?_
                        refine jf_take_skip rfl rfl (by decide) rfl ?_
                        refine jf_take_skip rfl rfl (by decide) rfl ?_
                        refine jf_take rfl rfl (by decide) rfl (y_pick_false rfl rfl) ?_
                        refine jf_take rfl rfl (by decide) rfl (y_move rfl) ?_
                        refine jf_take_skip rfl rfl (by decide) rfl ?_
                        refine jf_take_skip rfl rfl (by decide) rfl ?_
                        refine jf_skip rfl rfl (by decide) rfl ?_
                        refine jf_take rfl rfl (by decide) rfl (y_pick_false rfl rfl) ?_
                        refine jf_take rfl rfl (by decide) rfl (y_move rfl) ?_
                        refine jf_take_skip rfl rfl (by decide) rfl ?_
                        refine jf_skip rfl rfl (by decide) rfl ?_
                        refine jf_take_skip rfl rfl (by decide) rfl ?_
                        refine jf_take rfl rfl (by decide) rfl (y_pick_false rfl rfl) ?_
                        refine jf_take rfl rfl (by decide) rfl (y_move rfl) ?_
                        refine jf_take_skip rfl rfl (by decide) rfl ?_
                        refine jf_take_skip rfl rfl (by decide) rfl ?_
                        refine jf_take_skip rfl rfl (by decide) rfl ?_
                        refine jf_take_skip rfl rfl (by decide) rfl ?_
                        refine jf_take_skip rfl rfl (by decide) rfl ?_
                        refine jf_take_skip rfl rfl (by decide) rfl ?_
                        refine jf_take_skip rfl rfl (by decide) rfl ?_
                        refine jf_take_skip rfl rfl (by decide) rfl ?_
                        refine jf_take_skip rfl rfl (by decide) rfl ?_
                        refine jf_take_skip rfl rfl (by decide) rfl ?_
                        refine jf_take_skip rfl rfl (by decide) rfl ?_
                        refine jf_take rfl rfl (by decide) rfl (y_pick_false rfl rfl) ?_
                        refine jf_take rfl rfl (by decide) rfl (y_move rfl) ?_
                        refine jf_take_skip rfl rfl (by decide) rfl ?_
                        refine jf_take_skip rfl rfl (by decide) rfl ?_
                        refine jf_fork ?_ ?_
                        · skip
                          refine jf_skip rfl rfl (by decide) rfl ?_
                          refine jf_skip rfl rfl (by decide) rfl ?_
                          refine jf_skip rfl rfl (by decide) rfl ?_
                          refine jf_skip rfl rfl (by decide) rfl ?_
                          refine jf_skip rfl rfl (by decide) rfl ?_
                          refine jf_take_skip rfl rfl (by decide) rfl ?_
                          refine jf_take rfl rfl (by decide) rfl (y_pick_false rfl rfl) ?_
                          refine jf_take rfl rfl (by decide) rfl (y_move rfl) ?_
                          refine jf_take_skip rfl rfl (by decide) rfl ?_
                          refine jf_skip rfl rfl (by decide) rfl ?_
                          refine jf_take_skip rfl rfl (by decide) rfl ?_
                          refine jf_take rfl rfl (by decide) rfl (y_pick_false rfl rfl) ?_
                          refine jf_take rfl rfl (by decide) rfl (y_move rfl) ?_
                          refine jf_take_skip rfl rfl (by decide) rfl ?_
                          refine jf_skip rfl rfl (by decide) rfl ?_
                          refine jf_take_skip rfl rfl (by decide) rfl ?_
                          refine jf_take rfl rfl (by decide) rfl (y_pick_false rfl rfl) ?_
                          refine jf_take rfl rfl (by decide) rfl (y_move rfl) ?_
                          refine jf_skip rfl rfl (by decide) rfl ?_
                          refine jf_take_skip rfl rfl (by decide) rfl ?_
                          refine jf_take rfl rfl (by decide) rfl (y_pick_false rfl rfl) ?_
                          refine jf_nil ?_
                          refine jl_y rfl (by decide) rfl (y_assign rfl) ?_
                          refine jl_nil ?_
                          refine jq_then ?_
                          refine jc_ret ?_
                          refine jq_ret1 rfl rfl ?_
                          exact fun _ hw => ⟨rfl, hw.ch⟩
                        · skip
                          refine jf_skip rfl rfl (by decide) rfl ?_
                          refine jf_skip rfl rfl (by decide) rfl ?_
                          refine jf_skip rfl rfl (by decide) rfl ?_
                          refine jf_skip rfl rfl (by decide) rfl ?_
                          refine jf_skip rfl rfl (by decide) rfl ?_
                          refine jf_take_skip rfl rfl (by decide) rfl ?_
                          refine jf_take rfl rfl (by decide) rfl (y_pick_false rfl rfl) ?_
                          refine jf_take rfl rfl (by decide) rfl (y_move rfl) ?_
                          refine jf_take_skip rfl rfl (by decide) rfl ?_
                          refine jf_skip rfl rfl (by decide) rfl ?_
                          refine jf_take_skip rfl rfl (by decide) rfl ?_
                          refine jf_take rfl rfl (by decide) rfl (y_pick_false rfl rfl) ?_
                          refine jf_take rfl rfl (by decide) rfl (y_move rfl) ?_
                          refine jf_take_skip rfl rfl (by decide) rfl ?_
                          refine jf_skip rfl rfl (by decide) rfl ?_
                          refine jf_take_skip rfl rfl (by decide) rfl ?_
                          refine jf_take rfl rfl (by decide) rfl (y_pick_false rfl rfl) ?_
                          refine jf_take rfl rfl (by decide) rfl (y_move rfl) ?_
                          refine jf_skip rfl rfl (by decide) rfl ?_
                          refine jf_take_skip rfl rfl (by decide) rfl ?_
                          refine jf_take rfl rfl (by decide) rfl (y_pick_false rfl rfl) ?_
                          refine jf_nil ?_
                          refine jl_y rfl (by decide) rfl (y_assign rfl) ?_
                          refine jl_nil ?_
                          refine jq_then ?_
                          refine jc_ret ?_
                          refine jq_ret1 rfl rfl ?_
                          exact fun _ hw => ⟨rfl, hw.ch⟩
                        )
                    )
                · first
                  | (exfalso; omega)
                  | (
                    refine jf_take rfl rfl (by decide) rfl (y_move rfl) ?_
                    refine jf_take_skip rfl rfl (by decide) rfl ?_
                    refine jf_take_skip rfl rfl (by decide) rfl ?_
                    refine jf_take_skip rfl rfl (by decide) rfl ?_
                    refine jf_take rfl rfl (by decide) rfl (y_pick_false rfl rfl) ?_
                    refine jf_take rfl rfl (by decide) rfl (y_move rfl) ?_
                    refine jf_take_skip rfl rfl (by decide) rfl ?_
                    refine jf_take_skip rfl rfl (by decide) rfl ?_
                    refine jf_take rfl rfl (by decide) rfl (y_pick_false rfl rfl) ?_
                    refine jf_take rfl rfl (by decide) rfl (y_move rfl) ?_
                    refine jf_take_skip rfl rfl (by decide) rfl ?_
                    refine jf_take_skip rfl rfl (by decide) rfl ?_
                    refine jf_take rfl rfl (by decide) rfl (y_pick_false rfl rfl) ?_
                    refine jf_take rfl rfl (by decide) rfl (y_move rfl) ?_
                    refine jf_take_skip rfl rfl (by decide) rfl ?_
                    refine jf_take_skip rfl rfl (by decide) rfl ?_
                    refine jf_skip rfl rfl (by decide) rfl ?_
                    refine jf_take rfl rfl (by decide) rfl (y_pick_false rfl rfl) ?_
                    refine jf_take rfl rfl (by decide) rfl (y_move rfl) ?_
                    refine jf_take_skip rfl rfl (by decide) rfl ?_
                    refine jf_skip rfl rfl (by decide) rfl ?_
                    refine jf_take_skip rfl rfl (by decide) rfl ?_
                    refine jf_take rfl rfl (by decide) rfl (y_pick_false rfl rfl) ?_
                    refine jf_take rfl rfl (by decide) rfl (y_move rfl) ?_
                    refine jf_take_skip rfl rfl (by decide) rfl ?_
                    refine jf_take_skip rfl rfl (by decide) rfl ?_
                    refine jf_take_skip rfl rfl (by decide) rfl ?_
                    refine jf_take_skip rfl rfl (by decide) rfl ?_
                    refine jf_take_skip rfl rfl (by decide) rfl ?_
                    refine jf_take_skip rfl rfl (by decide) rfl ?_
                    refine jf_take_skip rfl rfl (by decide) rfl ?_
                    refine jf_take_skip rfl rfl (by decide) rfl ?_
                    refine jf_take_skip rfl rfl (by decide) rfl ?_
                    refine jf_take_skip rfl rfl (by decide) rfl ?_
                    refine jf_take_skip rfl rfl (by decide) rfl ?_
                    refine jf_take rfl rfl (by decide) rfl (y_pick_false rfl rfl) ?_
                    refine jf_take rfl rfl (by decide) rfl (y_move rfl) ?_
                    refine jf_take_skip rfl rfl (by decide) rfl ?_
                    refine jf_take_skip rfl rfl (by decide) rfl ?_
                    refine jf_fork ?_ ?_
                    · skip
                      refine jf_skip rfl rfl (by decide) rfl ?_
                      refine jf_skip rfl rfl (by decide) rfl ?_
                      refine jf_skip rfl rfl (by decide) rfl ?_
                      refine jf_skip rfl rfl (by decide) rfl ?_
                      refine jf_skip rfl rfl (by decide) rfl ?_
                      refine jf_take_skip rfl rfl (by decide) rfl ?_
                      refine jf_take rfl rfl (by decide) rfl (y_pick_false rfl rfl) ?_
                      refine jf_take rfl rfl (by decide) rfl (y_move rfl) ?_
                      refine jf_take_skip rfl rfl (by decide) rfl ?_
                      refine jf_skip rfl rfl (by decide) rfl ?_
                      refine jf_take_skip rfl rfl (by decide) rfl ?_
                      refine jf_take rfl rfl (by decide) rfl (y_pick_false rfl rfl) ?_
                      refine jf_take rfl rfl (by decide) rfl (y_move rfl) ?_
                      refine jf_take_skip rfl rfl (by decide) rfl ?_
                      refine jf_skip rfl rfl (by decide) rfl ?_
                      refine jf_take_skip rfl rfl (by decide) rfl ?_
                      refine jf_take rfl rfl (by decide) rfl (y_pick_false rfl rfl) ?_
                      refine jf_take rfl rfl (by decide) rfl (y_move rfl) ?_
                      refine jf_skip rfl rfl (by decide) rfl ?_
                      refine jf_take_skip rfl rfl (by decide) rfl ?_
                      refine jf_take rfl rfl (by decide) rfl (y_pick_false rfl rfl) ?_
                      refine jf_nil ?_
                      refine jl_y rfl (by decide) rfl (y_assign rfl) ?_
                      refine jl_nil ?_
                      refine jq_then ?_
                      refine jc_ret ?_
                      refine jq_ret1 rfl rfl ?_
                      exact fun _ hw => ⟨rfl, hw.ch⟩
                    · skip
                      refine jf_skip rfl rfl (by decide) rfl ?_
                      refine jf_skip rfl rfl (by decide) rfl ?_
                      refine jf_skip rfl rfl (by decide) rfl ?_
                      refine jf_skip rfl rfl (by decide) rfl ?_
                      refine jf_skip rfl rfl (by decide) rfl ?_
                      refine jf_take_skip rfl rfl (by decide) rfl ?_
                      refine jf_take rfl rfl (by decide) rfl (y_pick_false rfl rfl) ?_
                      refine jf_take rfl rfl (by decide) rfl (y_move rfl) ?_
                      refine jf_take_skip rfl rfl (by decide) rfl ?_
                      refine jf_skip rfl rfl (by decide) rfl ?_
                      refine jf_take_skip rfl rfl (by decide) rfl ?_
                      refine jf_take rfl rfl (by decide) rfl (y_pick_false rfl rfl) ?_
                      refine jf_take rfl rfl (by decide) rfl (y_move rfl) ?_
                      refine jf_take_skip rfl rfl (by decide) rfl ?_
                      refine jf_skip rfl rfl (by decide) rfl ?_
                      refine jf_take_skip rfl rfl (by decide) rfl ?_
                      refine jf_take rfl rfl (by decide) rfl (y_pick_false rfl rfl) ?_
                      refine jf_take rfl rfl (by decide) rfl (y_move rfl) ?_
                      refine jf_skip rfl rfl (by decide) rfl ?_
                      refine jf_take_skip rfl rfl (by decide) rfl ?_
                      refine jf_take rfl rfl (by decide) rfl (y_pick_false rfl rfl) ?_
                      refine jf_nil ?_
                      refine jl_y rfl (by decide) rfl (y_assign rfl) ?_
                      refine jl_nil ?_
                      refine jq_then ?_
                      refine jc_ret ?_
                      refine jq_ret1 rfl rfl ?_
                      exact fun _ hw => ⟨rfl, hw.ch⟩
                    )
                )
          )
      )

theorem wotsSigns_any (seed msg : ByteArray) (w : World) :
    Calls Try.prog 3 #[.string seed, .string msg] w fun e w' => e = .returned (.bool true) ∧ Ch [] w w' := by
  refine calls_of (n := 39) (E := [(0, .string seed), (1, .string msg)]) (W := Hp w [] []) Try.func3 rfl rfl (Nat.le_of_ble_eq_true rfl) rfl (Hp.nil _ _) ?_
  refine jc_seq ?_
  -- region 0
  refine jc_region ?_
  refine jl_y rfl (by decide) rfl (y_assign rfl) ?_
  refine jl_nil ?_
  refine jq_then ?_
  refine jc_seq ?_
  -- region 1
  refine jc_region ?_
  refine jl_y rfl (by decide) rfl (y_move rfl) ?_
  refine jl_y rfl (by decide) rfl (y_move rfl) ?_
  refine jl_y rfl (by decide) rfl (y_len_str rfl) ?_
  refine jl_y rfl (by decide) rfl (y_min rfl rfl) ?_
  refine jl_y rfl (by decide) rfl (y_substr_hi rfl rfl (by omega) (by omega)) ?_
  refine jl_as (u := .string (cutS seed 200)) (congrArg Value.string (cut_eq seed 200)) ?_
  refine jl_y rfl (by decide) rfl (y_assign rfl) ?_
  refine jl_nil ?_
  refine jq_then ?_
  refine jc_seq ?_
  -- region 2
  refine jc_region ?_
  refine jl_y rfl (by decide) rfl (y_move rfl) ?_
  refine jl_y rfl (by decide) rfl (y_move rfl) ?_
  refine jl_y rfl (by decide) rfl (y_len_str rfl) ?_
  refine jl_y rfl (by decide) rfl (y_min rfl rfl) ?_
  refine jl_y rfl (by decide) rfl (y_substr_hi rfl rfl (by omega) (by omega)) ?_
  refine jl_as (u := .string (cutS msg 200)) (congrArg Value.string (cut_eq msg 200)) ?_
  refine jl_y rfl (by decide) rfl (y_assign rfl) ?_
  refine jl_nil ?_
  refine jq_then ?_
  refine jc_seq ?_
  -- region 3
  have hcs := cutS_size seed 200
  have hcm := cutS_size msg 200
  refine jc_region ?_
  refine jl_y rfl (by decide) rfl (y_move rfl) ?_
  refine jl_fcall rfl (by decide) rfl (goes_func rfl) (fun w1 hw1 => digitsS_any _ w1 (by omega)) (fun bd => ?_)
  refine jl_y rfl (by decide) rfl (y_move rfl) ?_
  refine jl_fcall rfl (by decide) rfl (goes_func rfl) (fun w1 hw1 => rdigits_any _ w1 (by omega)) (fun pd => ?_)
  refine jl_pcall rfl (by decide) rfl (goes_func rfl) (fun w1 hw1 => pcall hw1 (ints_same bd pd.1 18 pd.2 18 (digs (cutS msg 200)) w1 (digs_length _) (by decide) (fun i hi => ((hw1.get (A := .cells bd ((digs (cutS msg 200)).map (.int .i64))) mem1 : Cells _ _ _).cell i).trans (map_getI _ _ hi)) (fun i hi => row_cell (hw1.get mem0) (map_getI _ _ hi)))) ?_
  refine jl_y rfl (by decide) rfl (y_move rfl) ?_
  refine jl_y rfl (by decide) rfl (y_move rfl) ?_
  refine jl_pcall rfl (by decide) rfl (goes_func rfl) (fun w1 hw1 => pcall hw1 (public_any _ w1 (by omega))) ?_
  refine jl_y rfl (by decide) rfl (y_move rfl) ?_
  refine jl_pcall rfl (by decide) rfl (goes_func rfl) (fun w1 hw1 => pcall hw1 (rpublic_any _ w1 (by omega))) ?_
  refine jl_y rfl (by decide) rfl (y_seql rfl rfl) ?_
  refine jl_as (u := .bool true) (congrArg (fun b => Value.bool b) (decide_eq_true (rfl))) ?_
  refine jl_y rfl (by decide) rfl (y_pick_true rfl rfl) ?_
  refine jl_y rfl (by decide) rfl (y_move rfl) ?_
  refine jl_y rfl (by decide) rfl (y_move rfl) ?_
  refine jl_y rfl (by decide) rfl (y_move rfl) ?_
  refine jl_pcall rfl (by decide) rfl (goes_func rfl) (fun w1 hw1 => pcall hw1 (sign_any _ _ w1 (by omega) (by omega))) ?_
  refine jl_y rfl (by decide) rfl (y_move rfl) ?_
  refine jl_y rfl (by decide) rfl (y_move rfl) ?_
  refine jl_pcall rfl (by decide) rfl (goes_func rfl) (fun w1 hw1 => pcall hw1 (rsign_any _ _ w1 (by omega) (by omega))) ?_
  refine jl_y rfl (by decide) rfl (y_seql rfl rfl) ?_
  refine jl_as (u := .bool true) (congrArg (fun b => Value.bool b) (decide_eq_true (rfl))) ?_
  refine jl_y rfl (by decide) rfl (y_pick_true rfl rfl) ?_
  refine jl_y rfl (by decide) rfl (y_move rfl) ?_
  refine jl_pcall rfl (by decide) rfl (goes_func rfl) (fun w1 hw1 => pcall hw1 (fixed6_any w1)) ?_
  refine jl_y rfl (by decide) rfl (y_pick_true rfl rfl) ?_
  refine jl_y rfl (by decide) rfl (y_assign rfl) ?_
  refine jl_nil ?_
  refine jq_then ?_
  refine jc_ret ?_
  refine jq_ret1 rfl rfl ?_
  exact fun _ hw => ⟨rfl, hw.ch⟩

theorem wotsFrom_any (pub msg sig : ByteArray) (w : World) :
    Calls Try.prog 4 #[.string pub, .string msg, .string sig] w fun e w' => e = .returned (.bool true) ∧ Ch [] w w' := by
  refine calls_of (n := 65) (E := [(0, .string pub), (1, .string msg), (2, .string sig)]) (W := Hp w [] []) Try.func4 rfl rfl (Nat.le_of_ble_eq_true rfl) rfl (Hp.nil _ _) ?_
  refine jc_seq ?_
  -- region 0
  refine jc_region ?_
  refine jl_y rfl (by decide) rfl (y_assign rfl) ?_
  refine jl_nil ?_
  refine jq_then ?_
  refine jc_seq ?_
  -- region 1
  refine jc_region ?_
  refine jl_y rfl (by decide) rfl (y_move rfl) ?_
  refine jl_y rfl (by decide) rfl (y_move rfl) ?_
  refine jl_y rfl (by decide) rfl (y_len_str rfl) ?_
  refine jl_y rfl (by decide) rfl (y_min rfl rfl) ?_
  refine jl_y rfl (by decide) rfl (y_substr_hi rfl rfl (by omega) (by omega)) ?_
  refine jl_as (u := .string (cutS msg 200)) (congrArg Value.string (cut_eq msg 200)) ?_
  refine jl_y rfl (by decide) rfl (y_assign rfl) ?_
  refine jl_nil ?_
  refine jq_then ?_
  refine jc_seq ?_
  -- region 2
  refine jc_region ?_
  refine jl_y rfl (by decide) rfl (y_move rfl) ?_
  refine jl_y rfl (by decide) rfl (y_move rfl) ?_
  refine jl_y rfl (by decide) rfl (y_len_str rfl) ?_
  refine jl_y rfl (by decide) rfl (y_min rfl rfl) ?_
  refine jl_y rfl (by decide) rfl (y_substr_hi rfl rfl (by omega) (by omega)) ?_
  refine jl_as (u := .string (cutS sig 400)) (congrArg Value.string (cut_eq sig 400)) ?_
  refine jl_y rfl (by decide) rfl (y_assign rfl) ?_
  refine jl_nil ?_
  refine jq_then ?_
  refine jc_seq ?_
  -- region 3
  have hcm := cutS_size msg 200
  have hcs := cutS_size sig 400
  refine jc_region ?_
  refine jl_y rfl (by decide) rfl (y_move rfl) ?_
  refine jl_y rfl (by decide) rfl (y_move rfl) ?_
  refine jl_pcall rfl (by decide) rfl (goes_func rfl) (fun w1 hw1 => pcall hw1 (from_any _ _ w1 (by omega))) ?_
  refine jl_y rfl (by decide) rfl (y_move rfl) ?_
  refine jl_y rfl (by decide) rfl (y_extract rfl rfl) ?_
  refine jl_y rfl (by decide) rfl (y_extract rfl rfl) ?_
  refine jl_y rfl (by decide) rfl (y_assign rfl) ?_
  refine jl_y rfl (by decide) rfl (y_assign rfl) ?_
  refine jl_nil ?_
  refine jq_then ?_
  refine jc_seq ?_
  -- region 4
  refine jc_region ?_
  refine jl_y rfl (by decide) rfl (y_move rfl) ?_
  refine jl_y rfl (by decide) rfl (y_move rfl) ?_
  refine jl_pcall rfl (by decide) rfl (goes_func rfl) (fun w1 hw1 => pcall hw1 (rfrom_any _ _ w1 (by omega))) ?_
  refine jl_y rfl (by decide) rfl (y_move rfl) ?_
  refine jl_y rfl (by decide) rfl (y_extract rfl rfl) ?_
  refine jl_y rfl (by decide) rfl (y_extract rfl rfl) ?_
  refine jl_y rfl (by decide) rfl (y_assign rfl) ?_
  refine jl_y rfl (by decide) rfl (y_assign rfl) ?_
  refine jl_nil ?_
  refine jq_then ?_
  refine jc_seq ?_
  -- region 5
  refine jc_region ?_
  refine jl_y rfl (by decide) rfl (y_move rfl) ?_
  refine jl_y rfl (by decide) rfl (y_move rfl) ?_
  refine jl_y rfl (by decide) rfl (y_seql rfl rfl) ?_
  refine jl_as (u := .bool true) (congrArg (fun b => Value.bool b) (decide_eq_true (rfl))) ?_
  refine jl_y rfl (by decide) rfl (y_move rfl) ?_
  refine jl_y rfl (by decide) rfl (y_move rfl) ?_
  refine jl_y rfl (by decide) rfl (y_move rfl) ?_
  refine jl_y rfl (by decide) rfl (y_eql rfl rfl) ?_
  refine jl_prop (fun h39 => ?_) (fun h39 => ?_)
  · first
    | (exfalso; omega)
    | (
      refine jl_y rfl (by decide) rfl (y_pick_true rfl rfl) ?_
      refine jl_y rfl (by decide) rfl (y_move rfl) ?_
      refine jl_y rfl (by decide) rfl (y_move rfl) ?_
      refine jl_y rfl (by decide) rfl (y_move rfl) ?_
      refine jl_y rfl (by decide) rfl (y_move rfl) ?_
      refine jl_pcall rfl (by decide) rfl (goes_func rfl) (fun w1 hw1 => pcall hw1 (verify_any _ _ _ w1 (by omega))) ?_
      refine jl_y rfl (by decide) rfl (y_move rfl) ?_
      refine jl_y rfl (by decide) rfl (y_move rfl) ?_
      refine jl_y rfl (by decide) rfl (y_move rfl) ?_
      refine jl_pcall rfl (by decide) rfl (goes_func rfl) (fun w1 hw1 => pcall hw1 (rverify_any _ _ _ w1 (by omega))) ?_
      refine jl_y rfl (by decide) rfl (y_eql_bool rfl rfl) ?_
      refine jl_as (u := .bool true) (congrArg Value.bool (by simp)) ?_
      refine jl_bool (fun h50 => ?_) (fun h50 => ?_)
      · skip
        refine jl_y rfl (by decide) rfl (y_pick_true rfl rfl) ?_
        refine jl_y rfl (by decide) rfl (y_move rfl) ?_
        refine jl_y rfl (by decide) rfl (y_move rfl) ?_
        refine jl_y rfl (by decide) rfl (y_neq rfl rfl) ?_
        refine jl_prop (fun h54 => ?_) (fun h54 => ?_)
        · first
          | (exfalso; omega)
          | (
            refine jl_y rfl (by decide) rfl (y_move rfl) ?_
            refine jl_skip rfl (by decide) rfl ?_
            refine jl_skip rfl (by decide) rfl ?_
            refine jl_skip rfl (by decide) rfl ?_
            refine jl_skip rfl (by decide) rfl ?_
            refine jl_y rfl (by decide) rfl (y_pick_true rfl rfl) ?_
            refine jl_y rfl (by decide) rfl (y_pick_true rfl rfl) ?_
            refine jl_y rfl (by decide) rfl (y_move rfl) ?_
            refine jl_pcall rfl (by decide) rfl (goes_func rfl) (fun w1 hw1 => pcall hw1 (fixed6_any w1)) ?_
            refine jl_y rfl (by decide) rfl (y_pick_true rfl rfl) ?_
            refine jl_y rfl (by decide) rfl (y_assign rfl) ?_
            refine jl_nil ?_
            refine jq_then ?_
            refine jc_ret ?_
            refine jq_ret1 rfl rfl ?_
            exact fun _ hw => ⟨rfl, hw.ch⟩
            )
        · first
          | (exfalso; omega)
          | (
            refine jl_y rfl (by decide) rfl (y_move rfl) ?_
            refine jl_y rfl (by decide) rfl (y_move rfl) ?_
            refine jl_y rfl (by decide) rfl (y_move rfl) ?_
            refine jl_y rfl (by decide) rfl (y_move rfl) ?_
            refine jl_pcall rfl (by decide) rfl (goes_func rfl) (fun w1 hw1 => pcall hw1 (verify_any _ _ _ w1 (by omega))) ?_
            refine jl_as (u := .bool true) (congrArg Value.bool (ver_self (by omega))) ?_
            refine jl_y rfl (by decide) rfl (y_pick_false rfl rfl) ?_
            refine jl_y rfl (by decide) rfl (y_pick_true rfl rfl) ?_
            refine jl_y rfl (by decide) rfl (y_move rfl) ?_
            refine jl_pcall rfl (by decide) rfl (goes_func rfl) (fun w1 hw1 => pcall hw1 (fixed6_any w1)) ?_
            refine jl_y rfl (by decide) rfl (y_pick_true rfl rfl) ?_
            refine jl_y rfl (by decide) rfl (y_assign rfl) ?_
            refine jl_nil ?_
            refine jq_then ?_
            refine jc_ret ?_
            refine jq_ret1 rfl rfl ?_
            exact fun _ hw => ⟨rfl, hw.ch⟩
            )
      · exact absurd h50 (by decide)
      )
  · first
    | (exfalso; omega)
    | (
      refine jl_y rfl (by decide) rfl (y_pick_true rfl rfl) ?_
      refine jl_y rfl (by decide) rfl (y_move rfl) ?_
      refine jl_skip rfl (by decide) rfl ?_
      refine jl_skip rfl (by decide) rfl ?_
      refine jl_skip rfl (by decide) rfl ?_
      refine jl_skip rfl (by decide) rfl ?_
      refine jl_skip rfl (by decide) rfl ?_
      refine jl_skip rfl (by decide) rfl ?_
      refine jl_skip rfl (by decide) rfl ?_
      refine jl_skip rfl (by decide) rfl ?_
      refine jl_skip rfl (by decide) rfl ?_
      refine jl_y rfl (by decide) rfl (y_pick_false rfl rfl) ?_
      refine jl_y rfl (by decide) rfl (y_move rfl) ?_
      refine jl_skip rfl (by decide) rfl ?_
      refine jl_skip rfl (by decide) rfl ?_
      refine jl_skip rfl (by decide) rfl ?_
      refine jl_skip rfl (by decide) rfl ?_
      refine jl_skip rfl (by decide) rfl ?_
      refine jl_skip rfl (by decide) rfl ?_
      refine jl_skip rfl (by decide) rfl ?_
      refine jl_skip rfl (by decide) rfl ?_
      refine jl_y rfl (by decide) rfl (y_pick_false rfl rfl) ?_
      refine jl_y rfl (by decide) rfl (y_move rfl) ?_
      refine jl_skip rfl (by decide) rfl ?_
      refine jl_y rfl (by decide) rfl (y_pick_false rfl rfl) ?_
      refine jl_y rfl (by decide) rfl (y_assign rfl) ?_
      refine jl_nil ?_
      refine jq_then ?_
      refine jc_ret ?_
      refine jq_ret1 rfl rfl ?_
      exact fun _ hw => ⟨rfl, hw.ch⟩
      )

theorem wotsSteps_any (p : Int) (x : ByteArray) (n0 n1 : Int) (w : World) (hp : fits .i64 p) (hn0 : fits .i64 n0) (hn1 : fits .i64 n1) :
    Calls Try.prog 5 #[.int .i64 p, .string x, .agg #[.int .i64 n0, .int .i64 n1]] w fun e w' => e = .returned (.bool true) ∧ Ch [] w w' := by
  simp only [fits] at hn0 hn1
  refine calls_of (n := 66) (E := [(0, .int .i64 p), (1, .string x), (2, .agg #[.int .i64 n0, .int .i64 n1])]) (W := Hp w [] []) Try.func5 rfl rfl (Nat.le_of_ble_eq_true rfl) rfl (Hp.nil _ _) ?_
  refine jc_seq ?_
  -- region 0
  refine jc_region ?_
  refine jl_m rfl (by decide) rfl (m_box rfl rfl) (fun b5 => ?_)
  refine jl_y rfl (by decide) rfl (y_assign rfl) ?_
  refine jl_nil ?_
  refine jq_then ?_
  refine jc_seq ?_
  -- region 1
  refine jc_region ?_
  refine jl_y rfl (by decide) rfl (y_move rfl) ?_
  refine jl_y rfl (by decide) rfl (y_move rfl) ?_
  refine jl_y rfl (by decide) rfl (y_len_str rfl) ?_
  refine jl_y rfl (by decide) rfl (y_min rfl rfl) ?_
  refine jl_y rfl (by decide) rfl (y_substr_hi rfl rfl (by omega) (by omega)) ?_
  refine jl_as (u := .string (cutS x 40)) (congrArg Value.string (cut_eq x 40)) ?_
  refine jl_y rfl (by decide) rfl (y_assign rfl) ?_
  refine jl_nil ?_
  refine jq_then ?_
  refine jc_seq ?_
  -- region 2
  refine jc_region ?_
  refine jl_y rfl (by decide) rfl (y_move rfl) ?_
  refine jl_y rfl (by decide) rfl (y_move rfl) ?_
  refine jl_y rfl (by decide) rfl (y_indexAddr_arr rfl rfl (by omega) (by omega) (by simp only [Int.toNat_natCast, Int.reduceSub, Int.reduceAdd, Int.reduceToNat, Nat.reduceMul, Nat.reduceAdd, Nat.zero_add, Nat.mul_one, Nat.zero_mul, Nat.add_zero]; exact rfl)) ?_
  first | refine jl_y rfl (by decide) rfl (y_load rfl (by first | exact mem0 | exact mem1 | exact mem2 | exact mem3 | exact mem4 | exact mem5) rfl) ?_ | refine jl_y rfl (by decide) rfl (y_load_row rfl (by first | exact mem0 | exact mem1 | exact mem2 | exact mem3 | exact mem4 | exact mem5) rfl) ?_ | refine jl_y rfl (by decide) rfl (y_load_old rfl (by assumption) (by simp)) ?_
  refine jl_pcall rfl (by decide) rfl (goes_func rfl) (fun w1 hw1 => pcall hw1 (wstep_any _ _ _ w1)) ?_
  refine jl_y rfl (by decide) rfl (y_assign rfl) ?_
  refine jl_nil ?_
  refine jq_then ?_
  refine jc_seq ?_
  refine jc_seq ?_
  -- region 3
  have hcx := cutS_size x 40
  refine jc_region ?_
  refine jl_y rfl (by decide) rfl (y_move rfl) ?_
  refine jl_y rfl (by decide) rfl (y_move rfl) ?_
  refine jl_y rfl (by decide) rfl (y_move rfl) ?_
  refine jl_y rfl (by decide) rfl (y_indexAddr_arr rfl rfl (by omega) (by omega) (by simp only [Int.toNat_natCast, Int.reduceSub, Int.reduceAdd, Int.reduceToNat, Nat.reduceMul, Nat.reduceAdd, Nat.zero_add, Nat.mul_one, Nat.zero_mul, Nat.add_zero]; exact rfl)) ?_
  first | refine jl_y rfl (by decide) rfl (y_load rfl (by first | exact mem0 | exact mem1 | exact mem2 | exact mem3 | exact mem4 | exact mem5) rfl) ?_ | refine jl_y rfl (by decide) rfl (y_load_row rfl (by first | exact mem0 | exact mem1 | exact mem2 | exact mem3 | exact mem4 | exact mem5) rfl) ?_ | refine jl_y rfl (by decide) rfl (y_load_old rfl (by assumption) (by simp)) ?_
  refine jl_pcall rfl (by decide) rfl (goes_func rfl) (fun w1 hw1 => pcall hw1 (rstep6_any _ _ _ w1)) ?_
  refine jl_y rfl (by decide) rfl (y_sneq rfl rfl) ?_
  refine jl_as (u := .bool false) (congrArg (fun b => Value.bool (!b)) (decide_eq_true (rfl))) ?_
  refine jl_nil ?_
  refine jq_then ?_
  refine jc_false rfl ?_
  refine jc_skip ?_
  refine jq_then ?_
  refine jc_seq ?_
  -- region 5
  refine jc_draw (by kernel_rfl) (fun _ h => h.drew) ?_
  refine ju_y rfl (by decide) rfl (y_indexAddr_arr rfl rfl (by omega) (by omega) (by simp only [Int.toNat_natCast, Int.reduceSub, Int.reduceAdd, Int.reduceToNat, Nat.reduceMul, Nat.reduceAdd, Nat.zero_add, Nat.mul_one, Nat.zero_mul, Nat.add_zero]; exact rfl)) ?_
  first | refine ju_y rfl (by decide) rfl (y_load rfl (by first | exact mem0 | exact mem1 | exact mem2 | exact mem3 | exact mem4 | exact mem5) rfl) ?_ | refine ju_y rfl (by decide) rfl (y_load_row rfl (by first | exact mem0 | exact mem1 | exact mem2 | exact mem3 | exact mem4 | exact mem5) rfl) ?_ | refine ju_y rfl (by decide) rfl (y_load_old rfl (by assumption) (by simp)) ?_
  refine ju_y rfl (by decide) rfl (y_and rfl rfl) ?_
  refine ju_as (u := .int .i64 (n0 % 16)) (congrArg _ (and15_64 n0)) ?_
  refine ju_y rfl (by decide) rfl (y_indexAddr_arr rfl rfl (by omega) (by omega) (by simp only [Int.toNat_natCast, Int.reduceSub, Int.reduceAdd, Int.reduceToNat, Nat.reduceMul, Nat.reduceAdd, Nat.zero_add, Nat.mul_one, Nat.zero_mul, Nat.add_zero]; exact rfl)) ?_
  first | refine ju_y rfl (by decide) rfl (y_load rfl (by first | exact mem0 | exact mem1 | exact mem2 | exact mem3 | exact mem4 | exact mem5) rfl) ?_ | refine ju_y rfl (by decide) rfl (y_load_row rfl (by first | exact mem0 | exact mem1 | exact mem2 | exact mem3 | exact mem4 | exact mem5) rfl) ?_ | refine ju_y rfl (by decide) rfl (y_load_old rfl (by assumption) (by simp)) ?_
  refine ju_y rfl (by decide) rfl (y_and rfl rfl) ?_
  refine ju_as (u := .int .i64 (n1 % 16)) (congrArg _ (and15_64 n1)) ?_
  refine ju_y rfl (by decide) rfl (y_assign rfl) ?_
  refine ju_y rfl (by decide) rfl (y_assign rfl) ?_
  refine ju_nil ?_
  refine jq_then ?_
  refine jc_seq ?_
  refine jc_seq ?_
  -- region 6
  refine jc_region ?_
  refine jl_y rfl (by decide) rfl (y_move rfl) ?_
  refine jl_y rfl (by decide) rfl (y_seql rfl rfl) ?_
  refine jl_prop (fun h34 => ?_) (fun h34 => ?_)
  · skip
    refine jl_y rfl (by decide) rfl (y_move rfl) ?_
    refine jl_skip rfl (by decide) rfl ?_
    refine jl_skip rfl (by decide) rfl ?_
    refine jl_skip rfl (by decide) rfl ?_
    refine jl_skip rfl (by decide) rfl ?_
    refine jl_y rfl (by decide) rfl (y_pick_true rfl rfl) ?_
    refine jl_nil ?_
    refine jq_then ?_
    refine jc_true rfl ?_
    refine jc_seq ?_
    -- region 7
    refine jc_region ?_
    refine jl_pcall rfl (by decide) rfl (goes_func rfl) (fun w1 hw1 => pcall hw1 (fixed6_any w1)) ?_
    refine jl_y rfl (by decide) rfl (y_assign rfl) ?_
    refine jl_nil ?_
    refine jq_then ?_
    refine jc_ret ?_
    refine jq_then_ret ?_
    refine jq_ret1 rfl rfl ?_
    exact fun _ hw => ⟨rfl, hw.ch⟩
  · skip
    refine jl_y rfl (by decide) rfl (y_move rfl) ?_
    refine jl_y rfl (by decide) rfl (y_move rfl) ?_
    refine jl_y rfl (by decide) rfl (y_move rfl) ?_
    refine jl_y rfl (by decide) rfl (y_add_fits rfl rfl (by simp only [fits]; omega)) ?_
    refine jl_y rfl (by decide) rfl (y_gtr rfl rfl) ?_
    refine jl_prop (fun h39 => ?_) (fun h39 => ?_)
    · first
      | (exfalso; omega)
      | (
        refine jl_y rfl (by decide) rfl (y_pick_false rfl rfl) ?_
        refine jl_nil ?_
        refine jq_then ?_
        refine jc_true rfl ?_
        refine jc_seq ?_
        -- region 7
        refine jc_region ?_
        refine jl_pcall rfl (by decide) rfl (goes_func rfl) (fun w1 hw1 => pcall hw1 (fixed6_any w1)) ?_
        refine jl_y rfl (by decide) rfl (y_assign rfl) ?_
        refine jl_nil ?_
        refine jq_then ?_
        refine jc_ret ?_
        refine jq_then_ret ?_
        refine jq_ret1 rfl rfl ?_
        exact fun _ hw => ⟨rfl, hw.ch⟩
        )
    · first
      | (exfalso; omega)
      | (
        refine jl_y rfl (by decide) rfl (y_pick_false rfl rfl) ?_
        refine jl_nil ?_
        refine jq_then ?_
        refine jc_false rfl ?_
        refine jc_skip ?_
        refine jq_then ?_
        refine jc_seq ?_
        -- region 8
        obtain ⟨v1, v2, v3, v4, v5⟩ := step_valid h34
        refine jc_region ?_
        refine jl_y rfl (by decide) rfl (y_move rfl) ?_
        refine jl_y rfl (by decide) rfl (y_move rfl) ?_
        refine jl_y rfl (by decide) rfl (y_move rfl) ?_
        refine jl_y rfl (by decide) rfl (y_move rfl) ?_
        refine jl_pcall rfl (by decide) rfl (goes_func rfl) (fun w1 hw1 => pcall hw1 (wstep_any _ _ _ w1)) ?_
        refine jl_y rfl (by decide) rfl (y_move rfl) ?_
        refine jl_pcall rfl (by decide) rfl (goes_func rfl) (fun w1 hw1 => pcall hw1 (wstep_any _ _ _ w1)) ?_
        refine jl_y rfl (by decide) rfl (y_move rfl) ?_
        refine jl_y rfl (by decide) rfl (y_move rfl) ?_
        refine jl_y rfl (by decide) rfl (y_move rfl) ?_
        refine jl_y rfl (by decide) rfl (y_move rfl) ?_
        refine jl_y rfl (by decide) rfl (y_add_fits rfl rfl (by simp only [fits]; omega)) ?_
        refine jl_pcall rfl (by decide) rfl (goes_func rfl) (fun w1 hw1 => pcall hw1 (wstep_any _ _ _ w1)) ?_
        refine jl_y rfl (by decide) rfl (y_seql rfl rfl) ?_
        refine jl_as (u := .bool true) (congrArg (fun b => Value.bool b) (decide_eq_true (step_parts (by omega) (by omega) v3 (by omega) (by omega) (by omega)))) ?_
        refine jl_y rfl (by decide) rfl (y_move rfl) ?_
        refine jl_y rfl (by decide) rfl (y_move rfl) ?_
        refine jl_y rfl (by decide) rfl (y_move rfl) ?_
        refine jl_pcall rfl (by decide) rfl (goes_func rfl) (fun w1 hw1 => pcall hw1 (wstep_any _ _ _ w1)) ?_
        refine jl_y rfl (by decide) rfl (y_move rfl) ?_
        refine jl_y rfl (by decide) rfl (y_seql rfl rfl) ?_
        refine jl_as (u := .bool true) (congrArg (fun b => Value.bool b) (decide_eq_true (step_zero (by omega) (by omega) v3))) ?_
        refine jl_y rfl (by decide) rfl (y_pick_true rfl rfl) ?_
        refine jl_y rfl (by decide) rfl (y_move rfl) ?_
        refine jl_pcall rfl (by decide) rfl (goes_func rfl) (fun w1 hw1 => pcall hw1 (fixed6_any w1)) ?_
        refine jl_y rfl (by decide) rfl (y_pick_true rfl rfl) ?_
        refine jl_y rfl (by decide) rfl (y_assign rfl) ?_
        refine jl_nil ?_
        refine jq_then ?_
        refine jc_ret ?_
        refine jq_ret1 rfl rfl ?_
        exact fun _ hw => ⟨rfl, hw.ch⟩
        )

theorem wotsBack_any (seed msg : ByteArray) (w : World) :
    Calls Try.prog 6 #[.string seed, .string msg] w fun e w' => e = .returned (.bool true) ∧ Ch [] w w' := by
  refine calls_of (n := 65) (E := [(0, .string seed), (1, .string msg)]) (W := Hp w [] []) Try.func6 rfl rfl (Nat.le_of_ble_eq_true rfl) rfl (Hp.nil _ _) ?_
  refine jc_seq ?_
  -- region 0
  refine jc_region ?_
  refine jl_y rfl (by decide) rfl (y_assign rfl) ?_
  refine jl_nil ?_
  refine jq_then ?_
  refine jc_seq ?_
  -- region 1
  refine jc_region ?_
  refine jl_y rfl (by decide) rfl (y_move rfl) ?_
  refine jl_y rfl (by decide) rfl (y_move rfl) ?_
  refine jl_y rfl (by decide) rfl (y_len_str rfl) ?_
  refine jl_y rfl (by decide) rfl (y_min rfl rfl) ?_
  refine jl_y rfl (by decide) rfl (y_substr_hi rfl rfl (by omega) (by omega)) ?_
  refine jl_as (u := .string (cutS seed 200)) (congrArg Value.string (cut_eq seed 200)) ?_
  refine jl_y rfl (by decide) rfl (y_assign rfl) ?_
  refine jl_nil ?_
  refine jq_then ?_
  refine jc_seq ?_
  -- region 2
  refine jc_region ?_
  refine jl_y rfl (by decide) rfl (y_move rfl) ?_
  refine jl_y rfl (by decide) rfl (y_move rfl) ?_
  refine jl_y rfl (by decide) rfl (y_len_str rfl) ?_
  refine jl_y rfl (by decide) rfl (y_min rfl rfl) ?_
  refine jl_y rfl (by decide) rfl (y_substr_hi rfl rfl (by omega) (by omega)) ?_
  refine jl_as (u := .string (cutS msg 200)) (congrArg Value.string (cut_eq msg 200)) ?_
  refine jl_y rfl (by decide) rfl (y_assign rfl) ?_
  refine jl_nil ?_
  refine jq_then ?_
  refine jc_seq ?_
  -- region 3
  have hcs := cutS_size seed 200
  have hcm := cutS_size msg 200
  refine jc_region ?_
  refine jl_y rfl (by decide) rfl (y_move rfl) ?_
  refine jl_y rfl (by decide) rfl (y_move rfl) ?_
  refine jl_pcall rfl (by decide) rfl (goes_func rfl) (fun w1 hw1 => pcall hw1 (sign_any _ _ w1 (by omega) (by omega))) ?_
  refine jl_y rfl (by decide) rfl (y_move rfl) ?_
  refine jl_pcall rfl (by decide) rfl (goes_func rfl) (fun w1 hw1 => pcall hw1 (public_any _ w1 (by omega))) ?_
  refine jl_y rfl (by decide) rfl (y_assign rfl) ?_
  refine jl_y rfl (by decide) rfl (y_assign rfl) ?_
  refine jl_nil ?_
  refine jq_then ?_
  refine jc_seq ?_
  refine jc_seq ?_
  -- region 4
  refine jc_region ?_
  refine jl_y rfl (by decide) rfl (y_move rfl) ?_
  refine jl_y rfl (by decide) rfl (y_len_str rfl) ?_
  refine jl_as (u := .int .i64 288) (congrArg (Value.int .i64) (by rw [signS_size]; rfl)) ?_
  refine jl_y rfl (by decide) rfl (y_neq rfl rfl) ?_
  refine jl_prop (fun h26 => ?_) (fun h26 => ?_)
  · first
    | (exfalso; omega)
    | (
      refine jl_nil ?_
      refine jq_then ?_
      refine jc_true rfl ?_
      refine jc_seq ?_
      -- region 5
      refine jc_region ?_
      refine jl_y rfl (by decide) rfl (y_assign rfl) ?_
      refine jl_nil ?_
      refine jq_then ?_
      refine jc_ret ?_
      refine jq_then_ret ?_
      refine jq_ret1 rfl rfl ?_
      exact fun _ hw => ⟨rfl, hw.ch⟩
      )
  · first
    | (exfalso; omega)
    | (
      refine jl_nil ?_
      refine jq_then ?_
      refine jc_false rfl ?_
      refine jc_skip ?_
      refine jq_then ?_
      refine jc_seq ?_
      -- region 6
      refine jc_region ?_
      refine jl_y rfl (by decide) rfl (y_move rfl) ?_
      refine jl_y rfl (by decide) rfl (y_move rfl) ?_
      refine jl_pcall rfl (by decide) rfl (goes_func rfl) (fun w1 hw1 => pcall hw1 (from_any _ _ w1 (by omega))) ?_
      refine jl_y rfl (by decide) rfl (y_move rfl) ?_
      refine jl_y rfl (by decide) rfl (y_extract rfl rfl) ?_
      refine jl_as (u := .string (pubS (cutS seed 200))) (congrArg Value.string (from_sign _ _)) ?_
      refine jl_y rfl (by decide) rfl (y_extract rfl rfl) ?_
      refine jl_as (u := .int .i64 0) (congrArg (Value.int .i64) (fromE_sign _ _)) ?_
      refine jl_y rfl (by decide) rfl (y_assign rfl) ?_
      refine jl_y rfl (by decide) rfl (y_assign rfl) ?_
      refine jl_nil ?_
      refine jq_then ?_
      refine jc_seq ?_
      -- region 7
      refine jc_region ?_
      refine jl_y rfl (by decide) rfl (y_move rfl) ?_
      refine jl_y rfl (by decide) rfl (y_move rfl) ?_
      refine jl_y rfl (by decide) rfl (y_seql rfl rfl) ?_
      refine jl_as (u := .bool true) (congrArg (fun b => Value.bool b) (decide_eq_true (rfl))) ?_
      refine jl_y rfl (by decide) rfl (y_move rfl) ?_
      refine jl_y rfl (by decide) rfl (y_move rfl) ?_
      refine jl_y rfl (by decide) rfl (y_eql rfl rfl) ?_
      refine jl_prop (fun h38 => ?_) (fun h38 => ?_)
      · first
        | (exfalso; omega)
        | (
          refine jl_y rfl (by decide) rfl (y_pick_true rfl rfl) ?_
          refine jl_y rfl (by decide) rfl (y_move rfl) ?_
          refine jl_y rfl (by decide) rfl (y_move rfl) ?_
          refine jl_y rfl (by decide) rfl (y_move rfl) ?_
          refine jl_y rfl (by decide) rfl (y_move rfl) ?_
          refine jl_pcall rfl (by decide) rfl (goes_func rfl) (fun w1 hw1 => pcall hw1 (verify_any _ _ _ w1 (by omega))) ?_
          refine jl_as (u := .bool true) (congrArg Value.bool (ver_sign _ _)) ?_
          refine jl_y rfl (by decide) rfl (y_pick_true rfl rfl) ?_
          refine jl_y rfl (by decide) rfl (y_move rfl) ?_
          refine jl_y rfl (by decide) rfl (y_move rfl) ?_
          refine jl_y rfl (by decide) rfl (y_move rfl) ?_
          refine jl_y rfl (by decide) rfl (y_move rfl) ?_
          refine jl_y rfl (by decide) rfl (y_substr_hi rfl rfl (by decide) (by rw [signS_size]; decide)) ?_
          refine jl_pcall rfl (by decide) rfl (goes_func rfl) (fun w1 hw1 => pcall hw1 (verify_any _ _ _ w1 (by omega))) ?_
          refine jl_as (u := .bool false) (congrArg Value.bool (ver_other _ _ _ (by rw [extract_size (by decide) (by rw [signS_size]; decide)]; decide))) ?_
          refine jl_y rfl (by decide) rfl (y_not rfl) ?_
          refine jl_y rfl (by decide) rfl (y_pick_true rfl rfl) ?_
          refine jl_y rfl (by decide) rfl (y_move rfl) ?_
          refine jl_y rfl (by decide) rfl (y_move rfl) ?_
          refine jl_y rfl (by decide) rfl (y_move rfl) ?_
          refine jl_y rfl (by decide) rfl (y_move rfl) ?_
          refine jl_y rfl (by decide) rfl (y_concat rfl rfl (by rw [signS_size]; decide)) ?_
          refine jl_pcall rfl (by decide) rfl (goes_func rfl) (fun w1 hw1 => pcall hw1 (verify_any _ _ _ w1 (by omega))) ?_
          refine jl_as (u := .bool false) (congrArg Value.bool (ver_other _ _ _ (by rw [ByteArray.size_append, signS_size]; decide))) ?_
          refine jl_y rfl (by decide) rfl (y_not rfl) ?_
          refine jl_y rfl (by decide) rfl (y_pick_true rfl rfl) ?_
          refine jl_y rfl (by decide) rfl (y_move rfl) ?_
          refine jl_pcall rfl (by decide) rfl (goes_func rfl) (fun w1 hw1 => pcall hw1 (fixed6_any w1)) ?_
          refine jl_y rfl (by decide) rfl (y_pick_true rfl rfl) ?_
          refine jl_y rfl (by decide) rfl (y_assign rfl) ?_
          refine jl_nil ?_
          refine jq_then ?_
          refine jc_ret ?_
          refine jq_ret1 rfl rfl ?_
          exact fun _ hw => ⟨rfl, hw.ch⟩
          )
      · first
        | (exfalso; omega)
        | (
          refine jl_y rfl (by decide) rfl (y_pick_true rfl rfl) ?_
          refine jl_y rfl (by decide) rfl (y_move rfl) ?_
          refine jl_skip rfl (by decide) rfl ?_
          refine jl_skip rfl (by decide) rfl ?_
          refine jl_skip rfl (by decide) rfl ?_
          refine jl_skip rfl (by decide) rfl ?_
          refine jl_y rfl (by decide) rfl (y_pick_false rfl rfl) ?_
          refine jl_y rfl (by decide) rfl (y_move rfl) ?_
          refine jl_skip rfl (by decide) rfl ?_
          refine jl_skip rfl (by decide) rfl ?_
          refine jl_skip rfl (by decide) rfl ?_
          refine jl_skip rfl (by decide) rfl ?_
          refine jl_skip rfl (by decide) rfl ?_
          refine jl_skip rfl (by decide) rfl ?_
          refine jl_y rfl (by decide) rfl (y_pick_false rfl rfl) ?_
          refine jl_y rfl (by decide) rfl (y_move rfl) ?_
          refine jl_skip rfl (by decide) rfl ?_
          refine jl_skip rfl (by decide) rfl ?_
          refine jl_skip rfl (by decide) rfl ?_
          refine jl_skip rfl (by decide) rfl ?_
          refine jl_skip rfl (by decide) rfl ?_
          refine jl_skip rfl (by decide) rfl ?_
          refine jl_y rfl (by decide) rfl (y_pick_false rfl rfl) ?_
          refine jl_y rfl (by decide) rfl (y_move rfl) ?_
          refine jl_skip rfl (by decide) rfl ?_
          refine jl_y rfl (by decide) rfl (y_pick_false rfl rfl) ?_
          refine jl_y rfl (by decide) rfl (y_assign rfl) ?_
          refine jl_nil ?_
          refine jq_then ?_
          refine jc_ret ?_
          refine jq_ret1 rfl rfl ?_
          exact fun _ hw => ⟨rfl, hw.ch⟩
          )
      )

theorem wotsLess_any (a b : ByteArray) (w : World) :
    Calls Try.prog 7 #[.string a, .string b] w fun e w' => e = .returned (.bool true) ∧ Ch [] w w' := by
  refine calls_of (n := 90) (E := [(0, .string a), (1, .string b)]) (W := Hp w [] []) Try.func7 rfl rfl (Nat.le_of_ble_eq_true rfl) rfl (Hp.nil _ _) ?_
  refine jc_seq ?_
  -- region 0
  refine jc_region ?_
  refine jl_y rfl (by decide) rfl (y_assign rfl) ?_
  refine jl_nil ?_
  refine jq_then ?_
  refine jc_seq ?_
  -- region 1
  have hca := cutS_size a 200
  have hcb := cutS_size b 200
  refine jc_sched 13 [(0, true), (1, true), (2, true), (3, true), (4, true), (6, true), (7, true), (8, true), (9, true), (10, true), (5, false), (11, false), (12, true)] rfl (by kernel_rfl) (fun _ _ _ _ h => h) (fun _ h => h.drew) ?_
  simp only [pickO, nthO, List.drop_succ_cons, List.drop_zero]
  refine js_take rfl (by decide) rfl (y_move rfl) ?_
  refine js_take rfl (by decide) rfl (y_move rfl) ?_
  refine js_take rfl (by decide) rfl (y_len_str rfl) ?_
  refine js_take rfl (by decide) rfl (y_min rfl rfl) ?_
  refine js_take rfl (by decide) rfl (y_substr_hi rfl rfl (by omega) (by omega)) ?_
  refine js_as (u := .string (cutS a 200)) (congrArg Value.string (cut_eq a 200)) ?_
  refine js_take rfl (by decide) rfl (y_move rfl) ?_
  refine js_take rfl (by decide) rfl (y_move rfl) ?_
  refine js_take rfl (by decide) rfl (y_len_str rfl) ?_
  refine js_take rfl (by decide) rfl (y_min rfl rfl) ?_
  refine js_take rfl (by decide) rfl (y_substr_hi rfl rfl (by omega) (by omega)) ?_
  refine js_as (u := .string (cutS b 200)) (congrArg Value.string (cut_eq b 200)) ?_
  refine js_fcall (by intros; rename_i h; first | exact h | exact h.pop | exact h.pop.pop | exact h.pop.pop.pop | exact h.pop.pop.pop.pop | exact h.pop.pop.pop.pop.pop | exact h.pop.pop.pop.pop.pop.pop) rfl (by decide) rfl (goes_func rfl) (fun w1 hw1 => digitsS_any (cutS a 200) w1 (by omega)) (fun ba => ?_)
  refine js_fcall (by intros; rename_i h; first | exact h | exact h.pop | exact h.pop.pop | exact h.pop.pop.pop | exact h.pop.pop.pop.pop | exact h.pop.pop.pop.pop.pop | exact h.pop.pop.pop.pop.pop.pop) rfl (by decide) rfl (goes_func rfl) (fun w1 hw1 => digitsS_any (cutS b 200) w1 (by omega)) (fun bb => ?_)
  refine js_take rfl (by decide) rfl (y_assign rfl) ?_
  refine js_nil ?_
  refine jl_y rfl (by decide) rfl (y_assign rfl) ?_
  refine jl_nil ?_
  refine jq_then ?_
  refine jc_seq ?_
  refine jc_seq ?_
  -- region 2
  refine jc_region ?_
  refine jl_y rfl (by decide) rfl (y_move rfl) ?_
  refine jl_y rfl (by decide) rfl (y_len_slice rfl) ?_
  refine jl_y rfl (by decide) rfl (y_neq rfl rfl) ?_
  refine jl_prop (fun h24 => ?_) (fun h24 => ?_)
  · first
    | (exfalso; omega)
    | (
      refine jl_y rfl (by decide) rfl (y_move rfl) ?_
      refine jl_skip rfl (by decide) rfl ?_
      refine jl_skip rfl (by decide) rfl ?_
      refine jl_skip rfl (by decide) rfl ?_
      refine jl_y rfl (by decide) rfl (y_pick_true rfl rfl) ?_
      refine jl_nil ?_
      refine jq_then ?_
      refine jc_true rfl ?_
      refine jc_seq ?_
      -- region 3
      refine jc_region ?_
      refine jl_y rfl (by decide) rfl (y_assign rfl) ?_
      refine jl_nil ?_
      refine jq_then ?_
      refine jc_ret ?_
      refine jq_then_ret ?_
      refine jq_ret1 rfl rfl ?_
      exact fun _ hw => ⟨rfl, hw.ch⟩
      )
  · first
    | (exfalso; omega)
    | (
      refine jl_y rfl (by decide) rfl (y_move rfl) ?_
      refine jl_y rfl (by decide) rfl (y_move rfl) ?_
      refine jl_y rfl (by decide) rfl (y_len_slice rfl) ?_
      refine jl_y rfl (by decide) rfl (y_neq rfl rfl) ?_
      refine jl_prop (fun h28 => ?_) (fun h28 => ?_)
      · first
        | (exfalso; omega)
        | (
          refine jl_y rfl (by decide) rfl (y_pick_false rfl rfl) ?_
          refine jl_nil ?_
          refine jq_then ?_
          refine jc_true rfl ?_
          refine jc_seq ?_
          -- region 3
          refine jc_region ?_
          refine jl_y rfl (by decide) rfl (y_assign rfl) ?_
          refine jl_nil ?_
          refine jq_then ?_
          refine jc_ret ?_
          refine jq_then_ret ?_
          refine jq_ret1 rfl rfl ?_
          exact fun _ hw => ⟨rfl, hw.ch⟩
          )
      · first
        | (exfalso; omega)
        | (
          refine jl_y rfl (by decide) rfl (y_pick_false rfl rfl) ?_
          refine jl_nil ?_
          refine jq_then ?_
          refine jc_false rfl ?_
          refine jc_skip ?_
          refine jq_then ?_
          refine jc_seq ?_
          -- region 4
          refine jc_region ?_
          refine jl_y rfl (by decide) rfl (y_assign rfl) ?_
          refine jl_y rfl (by decide) rfl (y_assign rfl) ?_
          refine jl_nil ?_
          refine jq_then ?_
          refine jc_seq ?_
          refine jc_seq ?_
          -- region 5
          refine jc_region ?_
          refine jl_y rfl (by decide) rfl (y_assign rfl) ?_
          refine jl_nil ?_
          refine jq_then ?_
          refine jc_block ?_
          -- a loop
          refine jc_loop (fun (i : Nat) => [(5, .slice (some ⟨ba, 0, none⟩) 18 18), (6, .slice (some ⟨bb, 0, none⟩) 18 18), (7, .bool (lessB (cutS a 200) (cutS b 200) i)), (8, .bool (lessB (cutS b 200) (cutS a 200) i)), (9, .int .i64 (i : Nat))]) (fun (i : Nat) => fun w' => i ≤ 18 ∧ Hp w [] [.cells bb ((digs (cutS b 200)).map (.int .i64)), .cells ba ((digs (cutS a 200)).map (.int .i64))] w') (fun (i : Nat) => 18 - i) 0 ?_ ?_ ?_
          · exact ⟨rfl, rfl, rfl, rfl, rfl, trivial⟩
          · exact fun _ h => ⟨by omega, h⟩
          · intro i
            refine jc_and (fun hi => ?_)
            have hda := dig_range (cutS a 200) i
            have hdb := dig_range (cutS b 200) i
            refine jc_seq ?_
            refine jc_seq ?_
            -- region 6
            refine jc_region ?_
            refine jl_y rfl (by decide) rfl (y_move rfl) ?_
            refine jl_y rfl (by decide) rfl (y_lss rfl rfl) ?_
            refine jl_prop (fun h31 => ?_) (fun h31 => ?_)
            · first
              | (exfalso; omega)
              | (
                refine jl_nil ?_
                refine jq_then ?_
                refine jc_true rfl ?_
                refine jc_skip ?_
                refine jq_then ?_
                refine jc_seq ?_
                refine jc_block ?_
                refine jc_seq ?_
                refine jc_seq ?_
                -- region 8
                refine jc_region ?_
                refine jl_y rfl (by decide) rfl (y_move rfl) ?_
                refine jl_y rfl (by decide) rfl (y_move rfl) ?_
                refine jl_y rfl (by decide) rfl (y_indexAddr_slice (off := i) rfl rfl (by omega) (by omega) (by omega)) ?_
                refine jl_y rfl (by decide) rfl (y_load rfl mem1 (map_getI _ _ (by rw [digs_length]; omega))) ?_
                refine jl_as (u := .int .i64 (dig (cutS a 200) i)) rfl ?_
                refine jl_y rfl (by decide) rfl (y_lss rfl rfl) ?_
                refine jl_prop (fun h38 => ?_) (fun h38 => ?_)
                · first
                  | (exfalso; omega)
                  | (
                    refine jl_y rfl (by decide) rfl (y_move rfl) ?_
                    refine jl_skip rfl (by decide) rfl ?_
                    refine jl_skip rfl (by decide) rfl ?_
                    refine jl_skip rfl (by decide) rfl ?_
                    refine jl_skip rfl (by decide) rfl ?_
                    refine jl_skip rfl (by decide) rfl ?_
                    refine jl_y rfl (by decide) rfl (y_pick_true rfl rfl) ?_
                    refine jl_y rfl (by decide) rfl (y_move rfl) ?_
                    refine jl_skip rfl (by decide) rfl ?_
                    refine jl_skip rfl (by decide) rfl ?_
                    refine jl_skip rfl (by decide) rfl ?_
                    refine jl_skip rfl (by decide) rfl ?_
                    refine jl_skip rfl (by decide) rfl ?_
                    refine jl_y rfl (by decide) rfl (y_pick_true rfl rfl) ?_
                    refine jl_y rfl (by decide) rfl (y_move rfl) ?_
                    refine jl_skip rfl (by decide) rfl ?_
                    refine jl_skip rfl (by decide) rfl ?_
                    refine jl_skip rfl (by decide) rfl ?_
                    refine jl_skip rfl (by decide) rfl ?_
                    refine jl_skip rfl (by decide) rfl ?_
                    refine jl_y rfl (by decide) rfl (y_pick_true rfl rfl) ?_
                    refine jl_nil ?_
                    refine jq_then ?_
                    refine jc_true rfl ?_
                    refine jc_seq ?_
                    -- region 9
                    refine jc_region ?_
                    refine jl_y rfl (by decide) rfl (y_assign rfl) ?_
                    refine jl_nil ?_
                    refine jq_then ?_
                    refine jc_ret ?_
                    refine jq_then_ret ?_
                    refine jq_block_ret ?_
                    refine jq_then_ret ?_
                    refine jq_then_ret ?_
                    refine jq_block_ret ?_
                    refine jq_then_ret ?_
                    refine jq_ret1 rfl rfl ?_
                    exact fun _ hw => ⟨rfl, hw.ch⟩
                    )
                · first
                  | (exfalso; omega)
                  | (
                    refine jl_y rfl (by decide) rfl (y_move rfl) ?_
                    refine jl_y rfl (by decide) rfl (y_move rfl) ?_
                    refine jl_y rfl (by decide) rfl (y_move rfl) ?_
                    refine jl_y rfl (by decide) rfl (y_indexAddr_slice (off := i) rfl rfl (by omega) (by omega) (by omega)) ?_
                    refine jl_y rfl (by decide) rfl (y_load rfl mem1 (map_getI _ _ (by rw [digs_length]; omega))) ?_
                    refine jl_as (u := .int .i64 (dig (cutS a 200) i)) rfl ?_
                    refine jl_y rfl (by decide) rfl (y_gtr rfl rfl) ?_
                    refine jl_prop (fun h44 => ?_) (fun h44 => ?_)
                    · first
                      | (exfalso; omega)
                      | (
                        refine jl_y rfl (by decide) rfl (y_pick_false rfl rfl) ?_
                        refine jl_y rfl (by decide) rfl (y_move rfl) ?_
                        refine jl_skip rfl (by decide) rfl ?_
                        refine jl_skip rfl (by decide) rfl ?_
                        refine jl_skip rfl (by decide) rfl ?_
                        refine jl_skip rfl (by decide) rfl ?_
                        refine jl_skip rfl (by decide) rfl ?_
                        refine jl_y rfl (by decide) rfl (y_pick_true rfl rfl) ?_
                        refine jl_y rfl (by decide) rfl (y_move rfl) ?_
                        refine jl_skip rfl (by decide) rfl ?_
                        refine jl_skip rfl (by decide) rfl ?_
                        refine jl_skip rfl (by decide) rfl ?_
                        refine jl_skip rfl (by decide) rfl ?_
                        refine jl_skip rfl (by decide) rfl ?_
                        refine jl_y rfl (by decide) rfl (y_pick_true rfl rfl) ?_
                        refine jl_nil ?_
                        refine jq_then ?_
                        refine jc_true rfl ?_
                        refine jc_seq ?_
                        -- region 9
                        refine jc_region ?_
                        refine jl_y rfl (by decide) rfl (y_assign rfl) ?_
                        refine jl_nil ?_
                        refine jq_then ?_
                        refine jc_ret ?_
                        refine jq_then_ret ?_
                        refine jq_block_ret ?_
                        refine jq_then_ret ?_
                        refine jq_then_ret ?_
                        refine jq_block_ret ?_
                        refine jq_then_ret ?_
                        refine jq_ret1 rfl rfl ?_
                        exact fun _ hw => ⟨rfl, hw.ch⟩
                        )
                    · first
                      | (exfalso; omega)
                      | (
                        refine jl_y rfl (by decide) rfl (y_pick_false rfl rfl) ?_
                        refine jl_y rfl (by decide) rfl (y_move rfl) ?_
                        refine jl_y rfl (by decide) rfl (y_move rfl) ?_
                        refine jl_y rfl (by decide) rfl (y_move rfl) ?_
                        refine jl_y rfl (by decide) rfl (y_indexAddr_slice (off := i) rfl rfl (by omega) (by omega) (by omega)) ?_
                        refine jl_y rfl (by decide) rfl (y_load rfl mem0 (map_getI _ _ (by rw [digs_length]; omega))) ?_
                        refine jl_as (u := .int .i64 (dig (cutS b 200) i)) rfl ?_
                        refine jl_y rfl (by decide) rfl (y_lss rfl rfl) ?_
                        refine jl_prop (fun h51 => ?_) (fun h51 => ?_)
                        · first
                          | (exfalso; omega)
                          | (
                            refine jl_y rfl (by decide) rfl (y_pick_false rfl rfl) ?_
                            refine jl_y rfl (by decide) rfl (y_move rfl) ?_
                            refine jl_skip rfl (by decide) rfl ?_
                            refine jl_skip rfl (by decide) rfl ?_
                            refine jl_skip rfl (by decide) rfl ?_
                            refine jl_skip rfl (by decide) rfl ?_
                            refine jl_skip rfl (by decide) rfl ?_
                            refine jl_y rfl (by decide) rfl (y_pick_true rfl rfl) ?_
                            refine jl_nil ?_
                            refine jq_then ?_
                            refine jc_true rfl ?_
                            refine jc_seq ?_
                            -- region 9
                            refine jc_region ?_
                            refine jl_y rfl (by decide) rfl (y_assign rfl) ?_
                            refine jl_nil ?_
                            refine jq_then ?_
                            refine jc_ret ?_
                            refine jq_then_ret ?_
                            refine jq_block_ret ?_
                            refine jq_then_ret ?_
                            refine jq_then_ret ?_
                            refine jq_block_ret ?_
                            refine jq_then_ret ?_
                            refine jq_ret1 rfl rfl ?_
                            exact fun _ hw => ⟨rfl, hw.ch⟩
                            )
                        · first
                          | (exfalso; omega)
                          | (
                            refine jl_y rfl (by decide) rfl (y_pick_false rfl rfl) ?_
                            refine jl_y rfl (by decide) rfl (y_move rfl) ?_
                            refine jl_y rfl (by decide) rfl (y_move rfl) ?_
                            refine jl_y rfl (by decide) rfl (y_move rfl) ?_
                            refine jl_y rfl (by decide) rfl (y_indexAddr_slice (off := i) rfl rfl (by omega) (by omega) (by omega)) ?_
                            refine jl_y rfl (by decide) rfl (y_load rfl mem0 (map_getI _ _ (by rw [digs_length]; omega))) ?_
                            refine jl_as (u := .int .i64 (dig (cutS b 200) i)) rfl ?_
                            refine jl_y rfl (by decide) rfl (y_gtr rfl rfl) ?_
                            refine jl_prop (fun h58 => ?_) (fun h58 => ?_)
                            · first
                              | (exfalso; omega)
                              | (
                                refine jl_y rfl (by decide) rfl (y_pick_false rfl rfl) ?_
                                refine jl_nil ?_
                                refine jq_then ?_
                                refine jc_true rfl ?_
                                refine jc_seq ?_
                                -- region 9
                                refine jc_region ?_
                                refine jl_y rfl (by decide) rfl (y_assign rfl) ?_
                                refine jl_nil ?_
                                refine jq_then ?_
                                refine jc_ret ?_
                                refine jq_then_ret ?_
                                refine jq_block_ret ?_
                                refine jq_then_ret ?_
                                refine jq_then_ret ?_
                                refine jq_block_ret ?_
                                refine jq_then_ret ?_
                                refine jq_ret1 rfl rfl ?_
                                exact fun _ hw => ⟨rfl, hw.ch⟩
                                )
                            · first
                              | (exfalso; omega)
                              | (
                                refine jl_y rfl (by decide) rfl (y_pick_false rfl rfl) ?_
                                refine jl_nil ?_
                                refine jq_then ?_
                                refine jc_false rfl ?_
                                refine jc_skip ?_
                                refine jq_then ?_
                                refine jc_seq ?_
                                -- region 10
                                refine jc_draw (by kernel_rfl) (fun _ h => h.drew) ?_
                                refine ju_y rfl (by decide) rfl (y_move rfl) ?_
                                refine ju_bool (fun h60 => ?_) (fun h60 => ?_)
                                · skip
                                  refine ju_y rfl (by decide) rfl (y_move rfl) ?_
                                  refine ju_skip rfl (by decide) rfl ?_
                                  refine ju_skip rfl (by decide) rfl ?_
                                  refine ju_skip rfl (by decide) rfl ?_
                                  refine ju_skip rfl (by decide) rfl ?_
                                  refine ju_skip rfl (by decide) rfl ?_
                                  refine ju_skip rfl (by decide) rfl ?_
                                  refine ju_skip rfl (by decide) rfl ?_
                                  refine ju_skip rfl (by decide) rfl ?_
                                  refine ju_skip rfl (by decide) rfl ?_
                                  refine ju_y rfl (by decide) rfl (y_pick_true rfl rfl) ?_
                                  refine ju_y rfl (by decide) rfl (y_assign rfl) ?_
                                  refine ju_nil ?_
                                  refine jq_then ?_
                                  -- region 11
                                  refine jc_draw (by kernel_rfl) (fun _ h => h.drew) ?_
                                  refine ju_y rfl (by decide) rfl (y_move rfl) ?_
                                  refine ju_bool (fun h72 => ?_) (fun h72 => ?_)
                                  · skip
                                    refine ju_y rfl (by decide) rfl (y_move rfl) ?_
                                    refine ju_skip rfl (by decide) rfl ?_
                                    refine ju_skip rfl (by decide) rfl ?_
                                    refine ju_skip rfl (by decide) rfl ?_
                                    refine ju_skip rfl (by decide) rfl ?_
                                    refine ju_skip rfl (by decide) rfl ?_
                                    refine ju_skip rfl (by decide) rfl ?_
                                    refine ju_skip rfl (by decide) rfl ?_
                                    refine ju_skip rfl (by decide) rfl ?_
                                    refine ju_skip rfl (by decide) rfl ?_
                                    refine ju_y rfl (by decide) rfl (y_pick_true rfl rfl) ?_
                                    refine ju_y rfl (by decide) rfl (y_assign rfl) ?_
                                    refine ju_nil ?_
                                    refine jq_block ?_
                                    refine jq_then ?_
                                    -- region 7
                                    refine jc_region ?_
                                    refine jl_y rfl (by decide) rfl (y_move rfl) ?_
                                    refine jl_y rfl (by decide) rfl (y_add_fits rfl rfl (by simp only [fits]; omega)) ?_
                                    refine jl_y rfl (by decide) rfl (y_assign rfl) ?_
                                    refine jl_nil ?_
                                    refine jq_round (i := i) (i + 1) ?_ ?_ ?_
                                    · omega
                                    · exact ⟨rfl, rfl, lk_bool rfl (by simp [lessB, *]), lk_bool rfl (by simp [lessB, *]), lk_int rfl (by omega), trivial⟩
                                    · exact fun _ h => ⟨by omega, h⟩
                                  · skip
                                    refine ju_y rfl (by decide) rfl (y_move rfl) ?_
                                    refine ju_y rfl (by decide) rfl (y_move rfl) ?_
                                    refine ju_y rfl (by decide) rfl (y_move rfl) ?_
                                    refine ju_y rfl (by decide) rfl (y_indexAddr_slice (off := i) rfl rfl (by omega) (by omega) (by omega)) ?_
                                    refine ju_y rfl (by decide) rfl (y_load rfl mem1 (map_getI _ _ (by rw [digs_length]; omega))) ?_
                                    refine ju_as (u := .int .i64 (dig (cutS a 200) i)) rfl ?_
                                    refine ju_y rfl (by decide) rfl (y_move rfl) ?_
                                    refine ju_y rfl (by decide) rfl (y_move rfl) ?_
                                    refine ju_y rfl (by decide) rfl (y_indexAddr_slice (off := i) rfl rfl (by omega) (by omega) (by omega)) ?_
                                    refine ju_y rfl (by decide) rfl (y_load rfl mem0 (map_getI _ _ (by rw [digs_length]; omega))) ?_
                                    refine ju_as (u := .int .i64 (dig (cutS b 200) i)) rfl ?_
                                    refine ju_y rfl (by decide) rfl (y_gtr rfl rfl) ?_
                                    refine ju_prop (fun h82 => ?_) (fun h82 => ?_)
                                    · first
                                      | (exfalso; omega)
                                      | (
                                        refine ju_y rfl (by decide) rfl (y_pick_false rfl rfl) ?_
                                        refine ju_y rfl (by decide) rfl (y_assign rfl) ?_
                                        refine ju_nil ?_
                                        refine jq_block ?_
                                        refine jq_then ?_
                                        -- region 7
                                        refine jc_region ?_
                                        refine jl_y rfl (by decide) rfl (y_move rfl) ?_
                                        refine jl_y rfl (by decide) rfl (y_add_fits rfl rfl (by simp only [fits]; omega)) ?_
                                        refine jl_y rfl (by decide) rfl (y_assign rfl) ?_
                                        refine jl_nil ?_
                                        refine jq_round (i := i) (i + 1) ?_ ?_ ?_
                                        · omega
                                        · exact ⟨rfl, rfl, lk_bool rfl (by simp [lessB, *]), lk_bool rfl (by simp [lessB, *]), lk_int rfl (by omega), trivial⟩
                                        · exact fun _ h => ⟨by omega, h⟩
                                        )
                                    · first
                                      | (exfalso; omega)
                                      | (
                                        refine ju_y rfl (by decide) rfl (y_pick_false rfl rfl) ?_
                                        refine ju_y rfl (by decide) rfl (y_assign rfl) ?_
                                        refine ju_nil ?_
                                        refine jq_block ?_
                                        refine jq_then ?_
                                        -- region 7
                                        refine jc_region ?_
                                        refine jl_y rfl (by decide) rfl (y_move rfl) ?_
                                        refine jl_y rfl (by decide) rfl (y_add_fits rfl rfl (by simp only [fits]; omega)) ?_
                                        refine jl_y rfl (by decide) rfl (y_assign rfl) ?_
                                        refine jl_nil ?_
                                        refine jq_round (i := i) (i + 1) ?_ ?_ ?_
                                        · omega
                                        · exact ⟨rfl, rfl, lk_bool rfl (by simp [lessB, *]), lk_bool rfl (by simp [lessB, *]), lk_int rfl (by omega), trivial⟩
                                        · exact fun _ h => ⟨by omega, h⟩
                                        )
                                · skip
                                  refine ju_y rfl (by decide) rfl (y_move rfl) ?_
                                  refine ju_y rfl (by decide) rfl (y_move rfl) ?_
                                  refine ju_y rfl (by decide) rfl (y_move rfl) ?_
                                  refine ju_y rfl (by decide) rfl (y_indexAddr_slice (off := i) rfl rfl (by omega) (by omega) (by omega)) ?_
                                  refine ju_y rfl (by decide) rfl (y_load rfl mem1 (map_getI _ _ (by rw [digs_length]; omega))) ?_
                                  refine ju_as (u := .int .i64 (dig (cutS a 200) i)) rfl ?_
                                  refine ju_y rfl (by decide) rfl (y_move rfl) ?_
                                  refine ju_y rfl (by decide) rfl (y_move rfl) ?_
                                  refine ju_y rfl (by decide) rfl (y_indexAddr_slice (off := i) rfl rfl (by omega) (by omega) (by omega)) ?_
                                  refine ju_y rfl (by decide) rfl (y_load rfl mem0 (map_getI _ _ (by rw [digs_length]; omega))) ?_
                                  refine ju_as (u := .int .i64 (dig (cutS b 200) i)) rfl ?_
                                  refine ju_y rfl (by decide) rfl (y_lss rfl rfl) ?_
                                  refine ju_prop (fun h70 => ?_) (fun h70 => ?_)
                                  · first
                                    | (exfalso; omega)
                                    | (
                                      refine ju_y rfl (by decide) rfl (y_pick_false rfl rfl) ?_
                                      refine ju_y rfl (by decide) rfl (y_assign rfl) ?_
                                      refine ju_nil ?_
                                      refine jq_then ?_
                                      -- region 11
                                      refine jc_draw (by kernel_rfl) (fun _ h => h.drew) ?_
                                      refine ju_y rfl (by decide) rfl (y_move rfl) ?_
                                      refine ju_bool (fun h72 => ?_) (fun h72 => ?_)
                                      · skip
                                        refine ju_y rfl (by decide) rfl (y_move rfl) ?_
                                        refine ju_skip rfl (by decide) rfl ?_
                                        refine ju_skip rfl (by decide) rfl ?_
                                        refine ju_skip rfl (by decide) rfl ?_
                                        refine ju_skip rfl (by decide) rfl ?_
                                        refine ju_skip rfl (by decide) rfl ?_
                                        refine ju_skip rfl (by decide) rfl ?_
                                        refine ju_skip rfl (by decide) rfl ?_
                                        refine ju_skip rfl (by decide) rfl ?_
                                        refine ju_skip rfl (by decide) rfl ?_
                                        refine ju_y rfl (by decide) rfl (y_pick_true rfl rfl) ?_
                                        refine ju_y rfl (by decide) rfl (y_assign rfl) ?_
                                        refine ju_nil ?_
                                        refine jq_block ?_
                                        refine jq_then ?_
                                        -- region 7
                                        refine jc_region ?_
                                        refine jl_y rfl (by decide) rfl (y_move rfl) ?_
                                        refine jl_y rfl (by decide) rfl (y_add_fits rfl rfl (by simp only [fits]; omega)) ?_
                                        refine jl_y rfl (by decide) rfl (y_assign rfl) ?_
                                        refine jl_nil ?_
                                        refine jq_round (i := i) (i + 1) ?_ ?_ ?_
                                        · omega
                                        · exact ⟨rfl, rfl, lk_bool rfl (by simp [lessB, *]), lk_bool rfl (by simp [lessB, *]), lk_int rfl (by omega), trivial⟩
                                        · exact fun _ h => ⟨by omega, h⟩
                                      · skip
                                        refine ju_y rfl (by decide) rfl (y_move rfl) ?_
                                        refine ju_y rfl (by decide) rfl (y_move rfl) ?_
                                        refine ju_y rfl (by decide) rfl (y_move rfl) ?_
                                        refine ju_y rfl (by decide) rfl (y_indexAddr_slice (off := i) rfl rfl (by omega) (by omega) (by omega)) ?_
                                        refine ju_y rfl (by decide) rfl (y_load rfl mem1 (map_getI _ _ (by rw [digs_length]; omega))) ?_
                                        refine ju_as (u := .int .i64 (dig (cutS a 200) i)) rfl ?_
                                        refine ju_y rfl (by decide) rfl (y_move rfl) ?_
                                        refine ju_y rfl (by decide) rfl (y_move rfl) ?_
                                        refine ju_y rfl (by decide) rfl (y_indexAddr_slice (off := i) rfl rfl (by omega) (by omega) (by omega)) ?_
                                        refine ju_y rfl (by decide) rfl (y_load rfl mem0 (map_getI _ _ (by rw [digs_length]; omega))) ?_
                                        refine ju_as (u := .int .i64 (dig (cutS b 200) i)) rfl ?_
                                        refine ju_y rfl (by decide) rfl (y_gtr rfl rfl) ?_
                                        refine ju_prop (fun h82 => ?_) (fun h82 => ?_)
                                        · first
                                          | (exfalso; omega)
                                          | (
                                            refine ju_y rfl (by decide) rfl (y_pick_false rfl rfl) ?_
                                            refine ju_y rfl (by decide) rfl (y_assign rfl) ?_
                                            refine ju_nil ?_
                                            refine jq_block ?_
                                            refine jq_then ?_
                                            -- region 7
                                            refine jc_region ?_
                                            refine jl_y rfl (by decide) rfl (y_move rfl) ?_
                                            refine jl_y rfl (by decide) rfl (y_add_fits rfl rfl (by simp only [fits]; omega)) ?_
                                            refine jl_y rfl (by decide) rfl (y_assign rfl) ?_
                                            refine jl_nil ?_
                                            refine jq_round (i := i) (i + 1) ?_ ?_ ?_
                                            · omega
                                            · exact ⟨rfl, rfl, lk_bool rfl (by simp [lessB, *]), lk_bool rfl (by simp [lessB, *]), lk_int rfl (by omega), trivial⟩
                                            · exact fun _ h => ⟨by omega, h⟩
                                            )
                                        · first
                                          | (exfalso; omega)
                                          | (
                                            refine ju_y rfl (by decide) rfl (y_pick_false rfl rfl) ?_
                                            refine ju_y rfl (by decide) rfl (y_assign rfl) ?_
                                            refine ju_nil ?_
                                            refine jq_block ?_
                                            refine jq_then ?_
                                            -- region 7
                                            refine jc_region ?_
                                            refine jl_y rfl (by decide) rfl (y_move rfl) ?_
                                            refine jl_y rfl (by decide) rfl (y_add_fits rfl rfl (by simp only [fits]; omega)) ?_
                                            refine jl_y rfl (by decide) rfl (y_assign rfl) ?_
                                            refine jl_nil ?_
                                            refine jq_round (i := i) (i + 1) ?_ ?_ ?_
                                            · omega
                                            · exact ⟨rfl, rfl, lk_bool rfl (by simp [lessB, *]), lk_bool rfl (by simp [lessB, *]), lk_int rfl (by omega), trivial⟩
                                            · exact fun _ h => ⟨by omega, h⟩
                                            )
                                      )
                                  · first
                                    | (exfalso; omega)
                                    | (
                                      refine ju_y rfl (by decide) rfl (y_pick_false rfl rfl) ?_
                                      refine ju_y rfl (by decide) rfl (y_assign rfl) ?_
                                      refine ju_nil ?_
                                      refine jq_then ?_
                                      -- region 11
                                      refine jc_draw (by kernel_rfl) (fun _ h => h.drew) ?_
                                      refine ju_y rfl (by decide) rfl (y_move rfl) ?_
                                      refine ju_bool (fun h72 => ?_) (fun h72 => ?_)
                                      · skip
                                        refine ju_y rfl (by decide) rfl (y_move rfl) ?_
                                        refine ju_skip rfl (by decide) rfl ?_
                                        refine ju_skip rfl (by decide) rfl ?_
                                        refine ju_skip rfl (by decide) rfl ?_
                                        refine ju_skip rfl (by decide) rfl ?_
                                        refine ju_skip rfl (by decide) rfl ?_
                                        refine ju_skip rfl (by decide) rfl ?_
                                        refine ju_skip rfl (by decide) rfl ?_
                                        refine ju_skip rfl (by decide) rfl ?_
                                        refine ju_skip rfl (by decide) rfl ?_
                                        refine ju_y rfl (by decide) rfl (y_pick_true rfl rfl) ?_
                                        refine ju_y rfl (by decide) rfl (y_assign rfl) ?_
                                        refine ju_nil ?_
                                        refine jq_block ?_
                                        refine jq_then ?_
                                        -- region 7
                                        refine jc_region ?_
                                        refine jl_y rfl (by decide) rfl (y_move rfl) ?_
                                        refine jl_y rfl (by decide) rfl (y_add_fits rfl rfl (by simp only [fits]; omega)) ?_
                                        refine jl_y rfl (by decide) rfl (y_assign rfl) ?_
                                        refine jl_nil ?_
                                        refine jq_round (i := i) (i + 1) ?_ ?_ ?_
                                        · omega
                                        · exact ⟨rfl, rfl, lk_bool rfl (by simp [lessB, *]), lk_bool rfl (by simp [lessB, *]), lk_int rfl (by omega), trivial⟩
                                        · exact fun _ h => ⟨by omega, h⟩
                                      · skip
                                        refine ju_y rfl (by decide) rfl (y_move rfl) ?_
                                        refine ju_y rfl (by decide) rfl (y_move rfl) ?_
                                        refine ju_y rfl (by decide) rfl (y_move rfl) ?_
                                        refine ju_y rfl (by decide) rfl (y_indexAddr_slice (off := i) rfl rfl (by omega) (by omega) (by omega)) ?_
                                        refine ju_y rfl (by decide) rfl (y_load rfl mem1 (map_getI _ _ (by rw [digs_length]; omega))) ?_
                                        refine ju_as (u := .int .i64 (dig (cutS a 200) i)) rfl ?_
                                        refine ju_y rfl (by decide) rfl (y_move rfl) ?_
                                        refine ju_y rfl (by decide) rfl (y_move rfl) ?_
                                        refine ju_y rfl (by decide) rfl (y_indexAddr_slice (off := i) rfl rfl (by omega) (by omega) (by omega)) ?_
                                        refine ju_y rfl (by decide) rfl (y_load rfl mem0 (map_getI _ _ (by rw [digs_length]; omega))) ?_
                                        refine ju_as (u := .int .i64 (dig (cutS b 200) i)) rfl ?_
                                        refine ju_y rfl (by decide) rfl (y_gtr rfl rfl) ?_
                                        refine ju_prop (fun h82 => ?_) (fun h82 => ?_)
                                        · first
                                          | (exfalso; omega)
                                          | (
                                            refine ju_y rfl (by decide) rfl (y_pick_false rfl rfl) ?_
                                            refine ju_y rfl (by decide) rfl (y_assign rfl) ?_
                                            refine ju_nil ?_
                                            refine jq_block ?_
                                            refine jq_then ?_
                                            -- region 7
                                            refine jc_region ?_
                                            refine jl_y rfl (by decide) rfl (y_move rfl) ?_
                                            refine jl_y rfl (by decide) rfl (y_add_fits rfl rfl (by simp only [fits]; omega)) ?_
                                            refine jl_y rfl (by decide) rfl (y_assign rfl) ?_
                                            refine jl_nil ?_
                                            refine jq_round (i := i) (i + 1) ?_ ?_ ?_
                                            · omega
                                            · exact ⟨rfl, rfl, lk_bool rfl (by simp [lessB, *]), lk_bool rfl (by simp [lessB, *]), lk_int rfl (by omega), trivial⟩
                                            · exact fun _ h => ⟨by omega, h⟩
                                            )
                                        · first
                                          | (exfalso; omega)
                                          | (
                                            refine ju_y rfl (by decide) rfl (y_pick_false rfl rfl) ?_
                                            refine ju_y rfl (by decide) rfl (y_assign rfl) ?_
                                            refine ju_nil ?_
                                            refine jq_block ?_
                                            refine jq_then ?_
                                            -- region 7
                                            refine jc_region ?_
                                            refine jl_y rfl (by decide) rfl (y_move rfl) ?_
                                            refine jl_y rfl (by decide) rfl (y_add_fits rfl rfl (by simp only [fits]; omega)) ?_
                                            refine jl_y rfl (by decide) rfl (y_assign rfl) ?_
                                            refine jl_nil ?_
                                            refine jq_round (i := i) (i + 1) ?_ ?_ ?_
                                            · omega
                                            · exact ⟨rfl, rfl, lk_bool rfl (by simp [lessB, *]), lk_bool rfl (by simp [lessB, *]), lk_int rfl (by omega), trivial⟩
                                            · exact fun _ h => ⟨by omega, h⟩
                                            )
                                      )
                                )
                            )
                        )
                    )
                )
            · first
              | (exfalso; omega)
              | (
                refine jl_nil ?_
                refine jq_then ?_
                refine jc_false rfl ?_
                refine jc_exit ?_
                refine jq_then_exit ?_
                refine jq_then_exit ?_
                refine jq_hit ?_
                refine jq_then ?_
                refine jc_seq ?_
                -- region 12
                have hi18 : i = 18 := by omega
                subst hi18
                refine jc_region ?_
                refine jl_y rfl (by decide) rfl (y_move rfl) ?_
                refine jl_y rfl (by decide) rfl (y_move rfl) ?_
                refine jl_y rfl (by decide) rfl (y_eql_bool rfl rfl) ?_
                refine jl_as (u := .bool true) (congrArg Value.bool (less_same _ _)) ?_
                refine jl_bool (fun h86 => ?_) (fun h86 => ?_)
                · skip
                  refine jl_y rfl (by decide) rfl (y_move rfl) ?_
                  refine jl_pcall rfl (by decide) rfl (goes_func rfl) (fun w1 hw1 => pcall hw1 (fixed6_any w1)) ?_
                  refine jl_y rfl (by decide) rfl (y_pick_true rfl rfl) ?_
                  refine jl_y rfl (by decide) rfl (y_assign rfl) ?_
                  refine jl_nil ?_
                  refine jq_then ?_
                  refine jc_ret ?_
                  refine jq_ret1 rfl rfl ?_
                  exact fun _ hw => ⟨rfl, hw.ch⟩
                · exact absurd h86 (by decide)
                )
          )
      )

theorem wotsChains_any (seed msg : ByteArray) (w : World) :
    Calls Try.prog 8 #[.string seed, .string msg] w fun e w' => e = .returned (.bool true) ∧ Ch [] w w' := by
  refine calls_of (n := 98) (E := [(0, .string seed), (1, .string msg)]) (W := Hp w [] []) Try.func8 rfl rfl (Nat.le_of_ble_eq_true rfl) rfl (Hp.nil _ _) ?_
  refine jc_seq ?_
  -- region 0
  refine jc_region ?_
  refine jl_y rfl (by decide) rfl (y_assign rfl) ?_
  refine jl_nil ?_
  refine jq_then ?_
  refine jc_seq ?_
  -- region 1
  have hcs := cutS_size seed 100
  have hcm := cutS_size msg 100
  have hsg := signS_size (cutS seed 100) (cutS msg 100)
  refine jc_draw (by kernel_rfl) (fun _ h => h.drew) ?_
  refine ju_y rfl (by decide) rfl (y_move rfl) ?_
  refine ju_y rfl (by decide) rfl (y_move rfl) ?_
  refine ju_y rfl (by decide) rfl (y_len_str rfl) ?_
  refine ju_y rfl (by decide) rfl (y_min rfl rfl) ?_
  refine ju_y rfl (by decide) rfl (y_substr_hi rfl rfl (by omega) (by omega)) ?_
  refine ju_as (u := .string (cutS seed 100)) (congrArg Value.string (cut_eq seed 100)) ?_
  refine ju_y rfl (by decide) rfl (y_move rfl) ?_
  refine ju_y rfl (by decide) rfl (y_move rfl) ?_
  refine ju_y rfl (by decide) rfl (y_len_str rfl) ?_
  refine ju_y rfl (by decide) rfl (y_min rfl rfl) ?_
  refine ju_y rfl (by decide) rfl (y_substr_hi rfl rfl (by omega) (by omega)) ?_
  refine ju_as (u := .string (cutS msg 100)) (congrArg Value.string (cut_eq msg 100)) ?_
  refine ju_y rfl (by decide) rfl (y_assign rfl) ?_
  refine ju_y rfl (by decide) rfl (y_assign rfl) ?_
  refine ju_nil ?_
  refine jq_then ?_
  refine jc_seq ?_
  -- region 2
  refine jc_region ?_
  refine jl_y rfl (by decide) rfl (y_move rfl) ?_
  refine jl_y rfl (by decide) rfl (y_move rfl) ?_
  refine jl_pcall rfl (by decide) rfl (goes_func rfl) (fun w1 hw1 => pcall hw1 (sign_any _ _ w1 (by omega) (by omega))) ?_
  refine jl_y rfl (by decide) rfl (y_move rfl) ?_
  refine jl_fcall rfl (by decide) rfl (goes_func rfl) (fun w1 hw1 => digitsS_any _ w1 (by omega)) (fun bd => ?_)
  refine jl_y rfl (by decide) rfl (y_assign rfl) ?_
  refine jl_y rfl (by decide) rfl (y_assign rfl) ?_
  refine jl_nil ?_
  refine jq_then ?_
  refine jc_seq ?_
  refine jc_seq ?_
  -- region 3
  refine jc_region ?_
  refine jl_y rfl (by decide) rfl (y_move rfl) ?_
  refine jl_y rfl (by decide) rfl (y_len_str rfl) ?_
  refine jl_as (u := .int .i64 288) (congrArg (Value.int .i64) (by rw [signS_size]; rfl)) ?_
  refine jl_y rfl (by decide) rfl (y_neq rfl rfl) ?_
  refine jl_prop (fun h29 => ?_) (fun h29 => ?_)
  · first
    | (exfalso; omega)
    | (
      refine jl_y rfl (by decide) rfl (y_move rfl) ?_
      refine jl_skip rfl (by decide) rfl ?_
      refine jl_skip rfl (by decide) rfl ?_
      refine jl_skip rfl (by decide) rfl ?_
      refine jl_y rfl (by decide) rfl (y_pick_true rfl rfl) ?_
      refine jl_nil ?_
      refine jq_then ?_
      refine jc_true rfl ?_
      refine jc_seq ?_
      -- region 4
      refine jc_region ?_
      refine jl_y rfl (by decide) rfl (y_assign rfl) ?_
      refine jl_nil ?_
      refine jq_then ?_
      refine jc_ret ?_
      refine jq_then_ret ?_
      refine jq_ret1 rfl rfl ?_
      exact fun _ hw => ⟨rfl, hw.ch⟩
      )
  · first
    | (exfalso; omega)
    | (
      refine jl_y rfl (by decide) rfl (y_move rfl) ?_
      refine jl_y rfl (by decide) rfl (y_move rfl) ?_
      refine jl_y rfl (by decide) rfl (y_len_slice rfl) ?_
      refine jl_y rfl (by decide) rfl (y_neq rfl rfl) ?_
      refine jl_prop (fun h33 => ?_) (fun h33 => ?_)
      · first
        | (exfalso; omega)
        | (
          refine jl_y rfl (by decide) rfl (y_pick_false rfl rfl) ?_
          refine jl_nil ?_
          refine jq_then ?_
          refine jc_true rfl ?_
          refine jc_seq ?_
          -- region 4
          refine jc_region ?_
          refine jl_y rfl (by decide) rfl (y_assign rfl) ?_
          refine jl_nil ?_
          refine jq_then ?_
          refine jc_ret ?_
          refine jq_then_ret ?_
          refine jq_ret1 rfl rfl ?_
          exact fun _ hw => ⟨rfl, hw.ch⟩
          )
      · first
        | (exfalso; omega)
        | (
          refine jl_y rfl (by decide) rfl (y_pick_false rfl rfl) ?_
          refine jl_nil ?_
          refine jq_then ?_
          refine jc_false rfl ?_
          refine jc_skip ?_
          refine jq_then ?_
          refine jc_seq ?_
          -- region 5
          refine jc_region ?_
          refine jl_y rfl (by decide) rfl (y_assign rfl) ?_
          refine jl_nil ?_
          refine jq_then ?_
          refine jc_seq ?_
          refine jc_seq ?_
          -- region 6
          refine jc_region ?_
          refine jl_y rfl (by decide) rfl (y_assign rfl) ?_
          refine jl_nil ?_
          refine jq_then ?_
          refine jc_block ?_
          -- a loop
          refine jc_loop (fun (i : Nat) => [(5, .string (cutS seed 100)), (7, .string (signS (cutS seed 100) (cutS msg 100))), (8, .slice (some ⟨bd, 0, none⟩) 18 18), (9, .string (fromAll (cutS msg 100) (signS (cutS seed 100) (cutS msg 100)) i)), (10, .int .i64 (i : Nat))]) (fun (i : Nat) => fun w' => i ≤ 18 ∧ Hp w [] [.cells bd ((digs (cutS msg 100)).map (.int .i64))] w') (fun (i : Nat) => 18 - i) 0 ?_ ?_ ?_
          · exact ⟨rfl, rfl, rfl, rfl, rfl, trivial⟩
          · exact fun _ h => ⟨by omega, h⟩
          · intro i
            refine jc_and (fun hi => ?_)
            have hdg := dig_range (cutS msg 100) i
            refine jc_seq ?_
            refine jc_seq ?_
            -- region 7
            refine jc_region ?_
            refine jl_y rfl (by decide) rfl (y_move rfl) ?_
            refine jl_y rfl (by decide) rfl (y_lss rfl rfl) ?_
            refine jl_prop (fun h36 => ?_) (fun h36 => ?_)
            · first
              | (exfalso; omega)
              | (
                refine jl_nil ?_
                refine jq_then ?_
                refine jc_true rfl ?_
                refine jc_skip ?_
                refine jq_then ?_
                refine jc_seq ?_
                refine jc_block ?_
                refine jc_seq ?_
                refine jc_seq ?_
                -- region 9
                refine jc_region ?_
                refine jl_y rfl (by decide) rfl (y_move rfl) ?_
                refine jl_y rfl (by decide) rfl (y_move rfl) ?_
                refine jl_y rfl (by decide) rfl (y_indexAddr_slice (off := i) rfl rfl (by omega) (by omega) (by omega)) ?_
                refine jl_y rfl (by decide) rfl (y_load rfl mem0 (map_getI _ _ (by rw [digs_length]; omega))) ?_
                refine jl_as (u := .int .i64 (dig (cutS msg 100) i)) rfl ?_
                refine jl_y rfl (by decide) rfl (y_lss rfl rfl) ?_
                refine jl_prop (fun h43 => ?_) (fun h43 => ?_)
                · first
                  | (exfalso; omega)
                  | (
                    refine jl_y rfl (by decide) rfl (y_move rfl) ?_
                    refine jl_skip rfl (by decide) rfl ?_
                    refine jl_skip rfl (by decide) rfl ?_
                    refine jl_skip rfl (by decide) rfl ?_
                    refine jl_skip rfl (by decide) rfl ?_
                    refine jl_skip rfl (by decide) rfl ?_
                    refine jl_y rfl (by decide) rfl (y_pick_true rfl rfl) ?_
                    refine jl_nil ?_
                    refine jq_then ?_
                    refine jc_true rfl ?_
                    refine jc_seq ?_
                    -- region 10
                    refine jc_region ?_
                    refine jl_y rfl (by decide) rfl (y_assign rfl) ?_
                    refine jl_nil ?_
                    refine jq_then ?_
                    refine jc_ret ?_
                    refine jq_then_ret ?_
                    refine jq_block_ret ?_
                    refine jq_then_ret ?_
                    refine jq_then_ret ?_
                    refine jq_block_ret ?_
                    refine jq_then_ret ?_
                    refine jq_ret1 rfl rfl ?_
                    exact fun _ hw => ⟨rfl, hw.ch⟩
                    )
                · first
                  | (exfalso; omega)
                  | (
                    refine jl_y rfl (by decide) rfl (y_move rfl) ?_
                    refine jl_y rfl (by decide) rfl (y_move rfl) ?_
                    refine jl_y rfl (by decide) rfl (y_move rfl) ?_
                    refine jl_y rfl (by decide) rfl (y_indexAddr_slice (off := i) rfl rfl (by omega) (by omega) (by omega)) ?_
                    refine jl_y rfl (by decide) rfl (y_load rfl mem0 (map_getI _ _ (by rw [digs_length]; omega))) ?_
                    refine jl_as (u := .int .i64 (dig (cutS msg 100) i)) rfl ?_
                    refine jl_y rfl (by decide) rfl (y_gtr rfl rfl) ?_
                    refine jl_prop (fun h49 => ?_) (fun h49 => ?_)
                    · first
                      | (exfalso; omega)
                      | (
                        refine jl_y rfl (by decide) rfl (y_pick_false rfl rfl) ?_
                        refine jl_nil ?_
                        refine jq_then ?_
                        refine jc_true rfl ?_
                        refine jc_seq ?_
                        -- region 10
                        refine jc_region ?_
                        refine jl_y rfl (by decide) rfl (y_assign rfl) ?_
                        refine jl_nil ?_
                        refine jq_then ?_
                        refine jc_ret ?_
                        refine jq_then_ret ?_
                        refine jq_block_ret ?_
                        refine jq_then_ret ?_
                        refine jq_then_ret ?_
                        refine jq_block_ret ?_
                        refine jq_then_ret ?_
                        refine jq_ret1 rfl rfl ?_
                        exact fun _ hw => ⟨rfl, hw.ch⟩
                        )
                    · first
                      | (exfalso; omega)
                      | (
                        refine jl_y rfl (by decide) rfl (y_pick_false rfl rfl) ?_
                        refine jl_nil ?_
                        refine jq_then ?_
                        refine jc_false rfl ?_
                        refine jc_skip ?_
                        refine jq_then ?_
                        refine jc_seq ?_
                        -- region 11
                        refine jc_region ?_
                        refine jl_y rfl (by decide) rfl (y_move rfl) ?_
                        refine jl_y rfl (by decide) rfl (y_move rfl) ?_
                        refine jl_y rfl (by decide) rfl (y_conv_u8 rfl) ?_
                        refine jl_m rfl (by decide) rfl (m_buildSlice (by decide) (Built.cell rfl rfl rfl (by repeat constructor) Built.nil)) (fun b54 => ?_)
                        refine jl_y rfl (by decide) rfl (y_str_own rfl (by first | exact mem0 | exact mem1 | exact mem2 | exact mem3 | exact mem4 | exact mem5) (by repeat constructor)) ?_
                        refine jl_as (u := .string (oneB i)) rfl ?_
                        refine jl_m rfl (by decide) rfl (m_buildSlice (by decide) (Built.cell rfl rfl rfl (by repeat constructor) (Built.cell rfl rfl rfl (by repeat constructor) Built.nil))) (fun b56 => ?_)
                        refine jl_pcall rfl (by decide) rfl (goes_func rfl) (fun w1 hw1 => pcall hw1 (tag_any strSecret (some ⟨b56, 0, none⟩) 2 [(cutS seed 100), oneB i] w1 (by decide) (by simp) (all2 (by omega) (by rw [oneB_size]; decide)) (Strs.of_row (hw1.get mem0)))) ?_
                        refine jl_as (u := .string (secS (cutS seed 100) i)) rfl ?_
                        refine jl_y rfl (by decide) rfl (y_assign rfl) ?_
                        refine jl_nil ?_
                        refine jq_then ?_
                        refine jc_seq ?_
                        refine jc_seq ?_
                        -- region 12
                        refine jc_draw (by kernel_rfl) (fun _ h => h.drew) ?_
                        refine ju_y rfl (by decide) rfl (y_move rfl) ?_
                        refine ju_y rfl (by decide) rfl (y_move rfl) ?_
                        refine ju_y rfl (by decide) rfl (y_move rfl) ?_
                        refine ju_y rfl (by decide) rfl (y_move rfl) ?_
                        refine ju_y rfl (by decide) rfl (y_indexAddr_slice (off := i) rfl rfl (by omega) (by omega) (by omega)) ?_
                        refine ju_y rfl (by decide) rfl (y_load rfl mem2 (map_getI _ _ (by rw [digs_length]; omega))) ?_
                        refine ju_as (u := .int .i64 (dig (cutS msg 100) i)) rfl ?_
                        refine ju_call rfl (by decide) rfl (goes_func rfl) (fun w1 hw1 => pcall hw1 (wstep_any _ _ _ w1)) ?_
                        refine ju_y rfl (by decide) rfl (y_move rfl) ?_
                        refine ju_y rfl (by decide) rfl (y_move rfl) ?_
                        refine ju_y rfl (by decide) rfl (y_mul_fits rfl rfl (by simp only [fits]; omega)) ?_
                        refine ju_y rfl (by decide) rfl (y_move rfl) ?_
                        refine ju_y rfl (by decide) rfl (y_mul_fits rfl rfl (by simp only [fits]; omega)) ?_
                        refine ju_y rfl (by decide) rfl (y_add_fits rfl rfl (by simp only [fits]; omega)) ?_
                        refine ju_y rfl (by decide) rfl (y_substr rfl rfl rfl (by omega) (by omega) (by omega)) ?_
                        refine ju_as (u := .string (partAt (signS (cutS seed 100) (cutS msg 100)) i)) (congrArg Value.string (by unfold partAt; congr 1 <;> omega)) ?_
                        refine ju_y rfl (by decide) rfl (y_sneq rfl rfl) ?_
                        refine ju_as (u := .bool false) (congrArg (fun b => Value.bool (!b)) (decide_eq_true ((sign_part _ _ i (by omega)).symm))) ?_
                        refine ju_nil ?_
                        refine jq_then ?_
                        refine jc_false rfl ?_
                        refine jc_skip ?_
                        refine jq_then ?_
                        -- region 14
                        refine jc_draw (by kernel_rfl) (fun _ h => h.drew) ?_
                        refine ju_y rfl (by decide) rfl (y_move rfl) ?_
                        refine ju_y rfl (by decide) rfl (y_move rfl) ?_
                        refine ju_y rfl (by decide) rfl (y_move rfl) ?_
                        refine ju_y rfl (by decide) rfl (y_move rfl) ?_
                        refine ju_y rfl (by decide) rfl (y_mul_fits rfl rfl (by simp only [fits]; omega)) ?_
                        refine ju_y rfl (by decide) rfl (y_move rfl) ?_
                        refine ju_y rfl (by decide) rfl (y_mul_fits rfl rfl (by simp only [fits]; omega)) ?_
                        refine ju_y rfl (by decide) rfl (y_add_fits rfl rfl (by simp only [fits]; omega)) ?_
                        refine ju_y rfl (by decide) rfl (y_substr rfl rfl rfl (by omega) (by omega) (by omega)) ?_
                        refine ju_as (u := .string (partAt (signS (cutS seed 100) (cutS msg 100)) i)) (congrArg Value.string (by unfold partAt; congr 1 <;> omega)) ?_
                        refine ju_y rfl (by decide) rfl (y_move rfl) ?_
                        refine ju_y rfl (by decide) rfl (y_move rfl) ?_
                        refine ju_y rfl (by decide) rfl (y_indexAddr_slice (off := i) rfl rfl (by omega) (by omega) (by omega)) ?_
                        refine ju_y rfl (by decide) rfl (y_load rfl mem2 (map_getI _ _ (by rw [digs_length]; omega))) ?_
                        refine ju_as (u := .int .i64 (dig (cutS msg 100) i)) rfl ?_
                        refine ju_y rfl (by decide) rfl (y_sub_fits rfl rfl (by simp only [fits]; omega)) ?_
                        refine ju_call rfl (by decide) rfl (goes_func rfl) (fun w1 hw1 => pcall hw1 (wstep_any _ _ _ w1)) ?_
                        refine ju_y rfl (by decide) rfl (y_concat rfl rfl (by have := fromAll_size (cutS msg 100) (signS (cutS seed 100) (cutS msg 100)) i; have := stepF_small (i : Int) (partAt (signS (cutS seed 100) (cutS msg 100)) i) (15 - dig (cutS msg 100) i); omega)) ?_
                        refine ju_y rfl (by decide) rfl (y_assign rfl) ?_
                        refine ju_nil ?_
                        refine jq_block ?_
                        refine jq_then ?_
                        -- region 8
                        refine jc_region ?_
                        refine jl_y rfl (by decide) rfl (y_move rfl) ?_
                        refine jl_y rfl (by decide) rfl (y_add_fits rfl rfl (by simp only [fits]; omega)) ?_
                        refine jl_y rfl (by decide) rfl (y_assign rfl) ?_
                        refine jl_nil ?_
                        refine jq_round (i := i) (i + 1) ?_ ?_ ?_
                        · omega
                        · exact ⟨rfl, rfl, rfl, rfl, lk_int rfl (by omega), trivial⟩
                        · exact fun _ h => ⟨by omega, h.part (.cons (by first | exact del2 | exact del1 | exact del0) .nil)⟩
                        )
                    )
                )
            · first
              | (exfalso; omega)
              | (
                refine jl_nil ?_
                refine jq_then ?_
                refine jc_false rfl ?_
                refine jc_exit ?_
                refine jq_then_exit ?_
                refine jq_then_exit ?_
                refine jq_hit ?_
                refine jq_then ?_
                refine jc_seq ?_
                -- region 15
                have hi18 : i = 18 := by omega
                subst hi18
                refine jc_region ?_
                refine jl_y rfl (by decide) rfl (y_move rfl) ?_
                refine jl_m rfl (by decide) rfl (m_buildSlice (by decide) (Built.cell rfl rfl rfl (by repeat constructor) Built.nil)) (fun b90 => ?_)
                refine jl_pcall rfl (by decide) rfl (goes_func rfl) (fun w1 hw1 => pcall hw1 (tag_any strPublic (some ⟨b90, 0, none⟩) 1 [fromAll (cutS msg 100) (signS (cutS seed 100) (cutS msg 100)) 18] w1 (by decide) (by simp) (all1 (by have := fromAll_size (cutS msg 100) (signS (cutS seed 100) (cutS msg 100)) 18; omega)) (Strs.of_row (hw1.get mem0)))) ?_
                refine jl_y rfl (by decide) rfl (y_move rfl) ?_
                refine jl_pcall rfl (by decide) rfl (goes_func rfl) (fun w1 hw1 => pcall hw1 (public_any _ w1 (by omega))) ?_
                refine jl_y rfl (by decide) rfl (y_seql rfl rfl) ?_
                refine jl_as (u := .bool true) (congrArg (fun b => Value.bool b) (decide_eq_true (chain_end _ _))) ?_
                refine jl_y rfl (by decide) rfl (y_move rfl) ?_
                refine jl_pcall rfl (by decide) rfl (goes_func rfl) (fun w1 hw1 => pcall hw1 (fixed6_any w1)) ?_
                refine jl_y rfl (by decide) rfl (y_pick_true rfl rfl) ?_
                refine jl_y rfl (by decide) rfl (y_assign rfl) ?_
                refine jl_nil ?_
                refine jq_then ?_
                refine jc_ret ?_
                refine jq_ret1 rfl rfl ?_
                exact fun _ hw => ⟨rfl, hw.ch⟩
                )
          )
      )

end Go.Proofs.Ytibdldkjmeocbaa