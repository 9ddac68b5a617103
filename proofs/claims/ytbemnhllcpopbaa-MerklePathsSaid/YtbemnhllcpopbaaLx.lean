/- The walks of the laws of layer 7: trees. Written by program (walk.py) out of a table of contracts and invariants. -/
import Derived.Test.YtbemnhllcpopbaaLw
namespace Go.Proofs.Ytbemnhllcpopbaa
open Go.RowKit
set_option maxRecDepth 100000
set_option linter.unusedVariables false
set_option linter.unusedSimpArgs false
/-- Leaves made of any texts. -/
def mkLeaf (ps : List ByteArray) (i : Nat) : ByteArray := (cutS (at0 ps i) 16 ++ sHex16).extract 0 16
theorem mkLeaf_def (ps : List ByteArray) (i : Nat) : mkLeaf ps i = (cutS (at0 ps i) 16 ++ sHex16).extract 0 16 := rfl
def mkL (ps : List ByteArray) (n : Nat) : List ByteArray := (List.range n).map (mkLeaf ps)
theorem mkLeaf_size (ps : List ByteArray) (i : Nat) : (mkLeaf ps i).size = 16 := by
  unfold mkLeaf
  rw [ByteArray.size_extract, ByteArray.size_append]
  show min 16 (_ + 16) - 0 = 16
  omega
theorem mkL_length (ps : List ByteArray) (n : Nat) : (mkL ps n).length = n := by simp [mkL]
theorem mkL_succ (ps : List ByteArray) (n : Nat) : mkL ps (n + 1) = mkL ps n ++ [mkLeaf ps n] := by simp [mkL, List.range_succ]
theorem mkL_ok (ps : List ByteArray) {h : Nat} (hh : h ≤ 4) : okL (mkL ps (2 ^ h)) ∧ tallL (mkL ps (2 ^ h)) = h := by
  refine ⟨⟨by rw [mkL_length]; exact (tall_pow hh).2, fun p hp => ?_⟩, by unfold tallL; rw [mkL_length]; exact (tall_pow hh).1⟩
  obtain ⟨j, _, rfl⟩ := List.mem_map.1 hp
  exact mkLeaf_size ps j
theorem at0_out {ps : List ByteArray} {i : Nat} (h : ¬ i < ps.length) : at0 ps i = ⟨#[]⟩ := by unfold at0; rw [List.getD_eq_getElem?_getD, List.getElem?_eq_none (by omega)]; rfl
theorem cut_empty (n : Nat) : cutS ⟨#[]⟩ n = ⟨#[]⟩ := by
  apply ints_inj
  have h : ints (⟨#[]⟩ : ByteArray) = [] := rfl
  unfold cutS
  rw [ints_extract, h]
  simp

theorem merkleTrees_any (ad : Option Addr) (c : Nat) (ps : List ByteArray) (i : Int) (bd : Option Addr) (d : Nat) (qs : List ByteArray) (w : World) (hps : Strs w ad ps) (hi : fits .i64 i) (hqs : Strs w bd qs) :
    Calls Try.prog 3 #[.slice ad ps.length c, .int .i64 i, .slice bd qs.length d] w fun e w' => e = .returned (.bool true) ∧ Ch [] w w' := by
  have hcp := cutL_small ps
  have hcq := cutL_small qs
  refine calls_of (n := 99) (E := [(0, .slice ad ps.length c), (1, .int .i64 i), (2, .slice bd qs.length d)]) (W := Hp w [] []) Try.func3 rfl rfl (Nat.le_of_ble_eq_true rfl) rfl (Hp.nil _ _) ?_
  refine jc_seq ?_
  -- region 0
  refine jc_region ?_
  refine jl_y rfl (by decide) rfl (y_assign rfl) ?_
  refine jl_nil ?_
  refine jq_then ?_
  refine jc_seq ?_
  -- region 1
  refine jc_region ?_
  refine jl_y rfl (by decide) rfl (y_move rfl) ?_
  refine jl_fcall rfl (by decide) rfl (goes_func rfl) (fun w1 hw1 => cut7_any _ _ _ w1 (hps.keep hw1)) (fun p => ?_)
  refine jl_y rfl (by decide) rfl (y_move rfl) ?_
  refine jl_fcall rfl (by decide) rfl (goes_func rfl) (fun w1 hw1 => cut7_any _ _ _ w1 (hqs.keep hw1)) (fun q => ?_)
  refine jl_y rfl (by decide) rfl (y_assign rfl) ?_
  refine jl_y rfl (by decide) rfl (y_assign rfl) ?_
  refine jl_nil ?_
  refine jq_then ?_
  refine jc_seq ?_
  -- region 2
  refine jc_rebase (fun wx hbx => ?_)
  have hl : Strs wx p.1 (cutL ps) := Strs.of_own (hbx.get mem1)
  have hm : Strs wx q.1 (cutL qs) := Strs.of_own (hbx.get mem0)
  refine jc_region ?_
  refine jl_y rfl (by decide) rfl (y_assign rfl) ?_
  refine jl_nil ?_
  refine jq_then ?_
  refine jc_seq ?_
  refine jc_seq ?_
  -- region 3
  refine jc_region ?_
  refine jl_y rfl (by decide) rfl (y_move rfl) ?_
  refine jl_y rfl (by decide) rfl (y_len_slice rfl) ?_
  refine jl_y rfl (by decide) rfl (y_gtr rfl rfl) ?_
  refine jl_prop (fun h28 => ?_) (fun h28 => ?_)
  · first
    | (exfalso; omega)
    | (
      obtain ⟨bb, oo, ep, hc⟩ := hl 0 _ (at0_some (by omega))
      obtain ⟨p1, p2⟩ := p
      simp only at ep hl
      subst ep
      refine jl_nil ?_
      refine jq_then ?_
      refine jc_true rfl ?_
      -- region 4
      refine jc_region ?_
      refine jl_y rfl (by decide) rfl (y_move rfl) ?_
      refine jl_y rfl (by decide) rfl (y_indexAddr_slice (off := oo + 0) rfl rfl (by omega) (by omega) (by omega)) ?_
      refine jl_y rfl (by decide) rfl (y_load_old rfl hc (by simp)) ?_
      refine jl_y rfl (by decide) rfl (y_assign rfl) ?_
      refine jl_nil ?_
      refine jq_then ?_
      refine jc_seq ?_
      -- region 5
      refine jc_region ?_
      refine jl_y rfl (by decide) rfl (y_move rfl) ?_
      refine jl_pcall rfl (by decide) rfl (goes_func rfl) (fun w1 hw1 => pcall hw1 (root1_any _ _ _ w1 (by omega) (hl.keep hw1))) ?_
      refine jl_y rfl (by decide) rfl (y_move rfl) ?_
      refine jl_y rfl (by decide) rfl (y_extract rfl rfl) ?_
      refine jl_y rfl (by decide) rfl (y_extract rfl rfl) ?_
      refine jl_y rfl (by decide) rfl (y_assign rfl) ?_
      refine jl_y rfl (by decide) rfl (y_assign rfl) ?_
      refine jl_nil ?_
      refine jq_then ?_
      refine jc_seq ?_
      -- region 6
      refine jc_region ?_
      refine jl_y rfl (by decide) rfl (y_move rfl) ?_
      refine jl_pcall rfl (by decide) rfl (goes_func rfl) (fun w1 hw1 => pcall hw1 (rroot_any _ _ _ w1 (by omega) (hl.keep hw1))) ?_
      refine jl_y rfl (by decide) rfl (y_move rfl) ?_
      refine jl_y rfl (by decide) rfl (y_extract rfl rfl) ?_
      refine jl_y rfl (by decide) rfl (y_extract rfl rfl) ?_
      refine jl_y rfl (by decide) rfl (y_assign rfl) ?_
      refine jl_y rfl (by decide) rfl (y_assign rfl) ?_
      refine jl_nil ?_
      refine jq_then ?_
      refine jc_seq ?_
      -- region 7
      refine jc_region ?_
      refine jl_y rfl (by decide) rfl (y_move rfl) ?_
      refine jl_y rfl (by decide) rfl (y_move rfl) ?_
      refine jl_fcall rfl (by decide) rfl (goes_func rfl) (fun w1 hw1 => path1_any _ _ (cutL ps) w1 (by omega) (hl.keep hw1) i) (fun r => ?_)
      refine jl_y rfl (by decide) rfl (y_move rfl) ?_
      refine jl_y rfl (by decide) rfl (y_extract rfl rfl) ?_
      refine jl_y rfl (by decide) rfl (y_extract rfl rfl) ?_
      refine jl_y rfl (by decide) rfl (y_assign rfl) ?_
      refine jl_y rfl (by decide) rfl (y_assign rfl) ?_
      refine jl_nil ?_
      refine jq_then ?_
      refine jc_seq ?_
      -- region 8
      refine jc_region ?_
      refine jl_y rfl (by decide) rfl (y_move rfl) ?_
      refine jl_y rfl (by decide) rfl (y_move rfl) ?_
      refine jl_fcall rfl (by decide) rfl (goes_func rfl) (fun w1 hw1 => rpath_any _ _ (cutL ps) w1 (by omega) (hl.keep hw1) i) (fun s => ?_)
      refine jl_y rfl (by decide) rfl (y_move rfl) ?_
      refine jl_y rfl (by decide) rfl (y_extract rfl rfl) ?_
      refine jl_y rfl (by decide) rfl (y_extract rfl rfl) ?_
      refine jl_y rfl (by decide) rfl (y_assign rfl) ?_
      refine jl_y rfl (by decide) rfl (y_assign rfl) ?_
      refine jl_nil ?_
      refine jq_then ?_
      refine jc_seq ?_
      -- region 9
      refine jc_region ?_
      refine jl_y rfl (by decide) rfl (y_move rfl) ?_
      refine jl_y rfl (by decide) rfl (y_move rfl) ?_
      refine jl_y rfl (by decide) rfl (y_move rfl) ?_
      refine jl_pcall rfl (by decide) rfl (goes_func rfl) (fun w1 hw1 => pcall hw1 (up1_any _ i _ _ (cutL qs) w1 (by omega) (hm.keep hw1))) ?_
      refine jl_y rfl (by decide) rfl (y_move rfl) ?_
      refine jl_y rfl (by decide) rfl (y_extract rfl rfl) ?_
      refine jl_y rfl (by decide) rfl (y_extract rfl rfl) ?_
      refine jl_y rfl (by decide) rfl (y_assign rfl) ?_
      refine jl_y rfl (by decide) rfl (y_assign rfl) ?_
      refine jl_nil ?_
      refine jq_then ?_
      refine jc_seq ?_
      -- region 10
      refine jc_region ?_
      refine jl_y rfl (by decide) rfl (y_move rfl) ?_
      refine jl_y rfl (by decide) rfl (y_move rfl) ?_
      refine jl_y rfl (by decide) rfl (y_move rfl) ?_
      refine jl_pcall rfl (by decide) rfl (goes_func rfl) (fun w1 hw1 => pcall hw1 (rup_any _ i _ _ (cutL qs) w1 (by omega) (hm.keep hw1) hi)) ?_
      refine jl_y rfl (by decide) rfl (y_move rfl) ?_
      refine jl_y rfl (by decide) rfl (y_extract rfl rfl) ?_
      refine jl_y rfl (by decide) rfl (y_extract rfl rfl) ?_
      refine jl_y rfl (by decide) rfl (y_assign rfl) ?_
      refine jl_y rfl (by decide) rfl (y_assign rfl) ?_
      refine jl_nil ?_
      refine jq_then ?_
      refine jc_seq ?_
      -- region 11
      refine jc_region ?_
      refine jl_y rfl (by decide) rfl (y_move rfl) ?_
      refine jl_y rfl (by decide) rfl (y_move rfl) ?_
      refine jl_y rfl (by decide) rfl (y_seql rfl rfl) ?_
      refine jl_as (u := .bool true) (congrArg (fun b => Value.bool b) (decide_eq_true (rfl))) ?_
      refine jl_y rfl (by decide) rfl (y_move rfl) ?_
      refine jl_y rfl (by decide) rfl (y_move rfl) ?_
      refine jl_y rfl (by decide) rfl (y_move rfl) ?_
      refine jl_y rfl (by decide) rfl (y_eql rfl rfl) ?_
      refine jl_prop (fun h74 => ?_) (fun h74 => ?_)
      · first
        | (exfalso; omega)
        | (
          refine jl_y rfl (by decide) rfl (y_pick_true rfl rfl) ?_
          refine jl_y rfl (by decide) rfl (y_move rfl) ?_
          refine jl_y rfl (by decide) rfl (y_move rfl) ?_
          refine jl_y rfl (by decide) rfl (y_move rfl) ?_
          refine jl_pcall rfl (by decide) rfl (goes_func rfl) (fun w1 hw1 => pcall hw1 (rsame_any _ _ _ _ (pathV (cutL ps) i) (pathV (cutL ps) i) w1 (by have := pathV_length (cutL ps) i; omega) (Strs.of_own (hw1.get mem1)) (by have := pathV_length (cutL ps) i; omega) (Strs.of_own (hw1.get mem0)))) ?_
          refine jl_as (u := .bool true) (congrArg Value.bool (decide_eq_true rfl)) ?_
          refine jl_y rfl (by decide) rfl (y_pick_true rfl rfl) ?_
          refine jl_y rfl (by decide) rfl (y_move rfl) ?_
          refine jl_y rfl (by decide) rfl (y_move rfl) ?_
          refine jl_y rfl (by decide) rfl (y_move rfl) ?_
          refine jl_y rfl (by decide) rfl (y_eql rfl rfl) ?_
          refine jl_prop (fun h84 => ?_) (fun h84 => ?_)
          · first
            | (exfalso; omega)
            | (
              refine jl_y rfl (by decide) rfl (y_pick_true rfl rfl) ?_
              refine jl_y rfl (by decide) rfl (y_move rfl) ?_
              refine jl_y rfl (by decide) rfl (y_move rfl) ?_
              refine jl_y rfl (by decide) rfl (y_move rfl) ?_
              refine jl_y rfl (by decide) rfl (y_seql rfl rfl) ?_
              refine jl_as (u := .bool true) (congrArg (fun b => Value.bool b) (decide_eq_true (rfl))) ?_
              refine jl_y rfl (by decide) rfl (y_pick_true rfl rfl) ?_
              refine jl_y rfl (by decide) rfl (y_move rfl) ?_
              refine jl_y rfl (by decide) rfl (y_move rfl) ?_
              refine jl_y rfl (by decide) rfl (y_move rfl) ?_
              refine jl_y rfl (by decide) rfl (y_eql rfl rfl) ?_
              refine jl_prop (fun h94 => ?_) (fun h94 => ?_)
              · first
                | (exfalso; omega)
                | (
                  refine jl_y rfl (by decide) rfl (y_pick_true rfl rfl) ?_
                  refine jl_y rfl (by decide) rfl (y_move rfl) ?_
                  refine jl_pcall rfl (by decide) rfl (goes_func rfl) (fun w1 hw1 => pcall hw1 (fixed7_any w1)) ?_
                  refine jl_y rfl (by decide) rfl (y_pick_true rfl rfl) ?_
                  refine jl_y rfl (by decide) rfl (y_assign rfl) ?_
                  refine jl_nil ?_
                  refine jq_then ?_
                  refine jc_ret ?_
                  refine jq_ret1 rfl rfl ?_
                  exact fun _ hw => ⟨rfl, (hbx.ch.then hw.ch)⟩
                  )
              · first
                | (exfalso; omega)
                | (
                  refine jl_y rfl (by decide) rfl (y_pick_true rfl rfl) ?_
                  refine jl_y rfl (by decide) rfl (y_move rfl) ?_
                  refine jl_skip rfl (by decide) rfl ?_
                  refine jl_y rfl (by decide) rfl (y_pick_false rfl rfl) ?_
                  refine jl_y rfl (by decide) rfl (y_assign rfl) ?_
                  refine jl_nil ?_
                  refine jq_then ?_
                  refine jc_ret ?_
                  refine jq_ret1 rfl rfl ?_
                  exact fun _ hw => ⟨rfl, (hbx.ch.then hw.ch)⟩
                  )
              )
          · first
            | (exfalso; omega)
            | (
              refine jl_y rfl (by decide) rfl (y_pick_true rfl rfl) ?_
              refine jl_y rfl (by decide) rfl (y_move rfl) ?_
              refine jl_skip rfl (by decide) rfl ?_
              refine jl_skip rfl (by decide) rfl ?_
              refine jl_skip rfl (by decide) rfl ?_
              refine jl_y rfl (by decide) rfl (y_pick_false rfl rfl) ?_
              refine jl_y rfl (by decide) rfl (y_move rfl) ?_
              refine jl_skip rfl (by decide) rfl ?_
              refine jl_skip rfl (by decide) rfl ?_
              refine jl_skip rfl (by decide) rfl ?_
              refine jl_y rfl (by decide) rfl (y_pick_false rfl rfl) ?_
              refine jl_y rfl (by decide) rfl (y_move rfl) ?_
              refine jl_skip rfl (by decide) rfl ?_
              refine jl_y rfl (by decide) rfl (y_pick_false rfl rfl) ?_
              refine jl_y rfl (by decide) rfl (y_assign rfl) ?_
              refine jl_nil ?_
              refine jq_then ?_
              refine jc_ret ?_
              refine jq_ret1 rfl rfl ?_
              exact fun _ hw => ⟨rfl, (hbx.ch.then hw.ch)⟩
              )
          )
      · first
        | (exfalso; omega)
        | (
          refine jl_y rfl (by decide) rfl (y_pick_true rfl rfl) ?_
          refine jl_y rfl (by decide) rfl (y_move rfl) ?_
          refine jl_skip rfl (by decide) rfl ?_
          refine jl_skip rfl (by decide) rfl ?_
          refine jl_skip rfl (by decide) rfl ?_
          refine jl_y rfl (by decide) rfl (y_pick_false rfl rfl) ?_
          refine jl_y rfl (by decide) rfl (y_move rfl) ?_
          refine jl_skip rfl (by decide) rfl ?_
          refine jl_skip rfl (by decide) rfl ?_
          refine jl_skip rfl (by decide) rfl ?_
          refine jl_y rfl (by decide) rfl (y_pick_false rfl rfl) ?_
          refine jl_y rfl (by decide) rfl (y_move rfl) ?_
          refine jl_skip rfl (by decide) rfl ?_
          refine jl_skip rfl (by decide) rfl ?_
          refine jl_skip rfl (by decide) rfl ?_
          refine jl_y rfl (by decide) rfl (y_pick_false rfl rfl) ?_
          refine jl_y rfl (by decide) rfl (y_move rfl) ?_
          refine jl_skip rfl (by decide) rfl ?_
          refine jl_skip rfl (by decide) rfl ?_
          refine jl_skip rfl (by decide) rfl ?_
          refine jl_y rfl (by decide) rfl (y_pick_false rfl rfl) ?_
          refine jl_y rfl (by decide) rfl (y_move rfl) ?_
          refine jl_skip rfl (by decide) rfl ?_
          refine jl_y rfl (by decide) rfl (y_pick_false rfl rfl) ?_
          refine jl_y rfl (by decide) rfl (y_assign rfl) ?_
          refine jl_nil ?_
          refine jq_then ?_
          refine jc_ret ?_
          refine jq_ret1 rfl rfl ?_
          exact fun _ hw => ⟨rfl, (hbx.ch.then hw.ch)⟩
          )
      )
  · first
    | (exfalso; omega)
    | (
      refine jl_nil ?_
      refine jq_then ?_
      refine jc_false rfl ?_
      refine jc_skip ?_
      refine jq_then ?_
      refine jc_seq ?_
      -- region 5
      refine jc_region ?_
      refine jl_y rfl (by decide) rfl (y_move rfl) ?_
      refine jl_pcall rfl (by decide) rfl (goes_func rfl) (fun w1 hw1 => pcall hw1 (root1_any _ _ _ w1 (by omega) (hl.keep hw1))) ?_
      refine jl_y rfl (by decide) rfl (y_move rfl) ?_
      refine jl_y rfl (by decide) rfl (y_extract rfl rfl) ?_
      refine jl_y rfl (by decide) rfl (y_extract rfl rfl) ?_
      refine jl_y rfl (by decide) rfl (y_assign rfl) ?_
      refine jl_y rfl (by decide) rfl (y_assign rfl) ?_
      refine jl_nil ?_
      refine jq_then ?_
      refine jc_seq ?_
      -- region 6
      refine jc_region ?_
      refine jl_y rfl (by decide) rfl (y_move rfl) ?_
      refine jl_pcall rfl (by decide) rfl (goes_func rfl) (fun w1 hw1 => pcall hw1 (rroot_any _ _ _ w1 (by omega) (hl.keep hw1))) ?_
      refine jl_y rfl (by decide) rfl (y_move rfl) ?_
      refine jl_y rfl (by decide) rfl (y_extract rfl rfl) ?_
      refine jl_y rfl (by decide) rfl (y_extract rfl rfl) ?_
      refine jl_y rfl (by decide) rfl (y_assign rfl) ?_
      refine jl_y rfl (by decide) rfl (y_assign rfl) ?_
      refine jl_nil ?_
      refine jq_then ?_
      refine jc_seq ?_
      -- region 7
      refine jc_region ?_
      refine jl_y rfl (by decide) rfl (y_move rfl) ?_
      refine jl_y rfl (by decide) rfl (y_move rfl) ?_
      refine jl_fcall rfl (by decide) rfl (goes_func rfl) (fun w1 hw1 => path1_any _ _ (cutL ps) w1 (by omega) (hl.keep hw1) i) (fun r => ?_)
      refine jl_y rfl (by decide) rfl (y_move rfl) ?_
      refine jl_y rfl (by decide) rfl (y_extract rfl rfl) ?_
      refine jl_y rfl (by decide) rfl (y_extract rfl rfl) ?_
      refine jl_y rfl (by decide) rfl (y_assign rfl) ?_
      refine jl_y rfl (by decide) rfl (y_assign rfl) ?_
      refine jl_nil ?_
      refine jq_then ?_
      refine jc_seq ?_
      -- region 8
      refine jc_region ?_
      refine jl_y rfl (by decide) rfl (y_move rfl) ?_
      refine jl_y rfl (by decide) rfl (y_move rfl) ?_
      refine jl_fcall rfl (by decide) rfl (goes_func rfl) (fun w1 hw1 => rpath_any _ _ (cutL ps) w1 (by omega) (hl.keep hw1) i) (fun s => ?_)
      refine jl_y rfl (by decide) rfl (y_move rfl) ?_
      refine jl_y rfl (by decide) rfl (y_extract rfl rfl) ?_
      refine jl_y rfl (by decide) rfl (y_extract rfl rfl) ?_
      refine jl_y rfl (by decide) rfl (y_assign rfl) ?_
      refine jl_y rfl (by decide) rfl (y_assign rfl) ?_
      refine jl_nil ?_
      refine jq_then ?_
      refine jc_seq ?_
      -- region 9
      refine jc_region ?_
      refine jl_y rfl (by decide) rfl (y_move rfl) ?_
      refine jl_y rfl (by decide) rfl (y_move rfl) ?_
      refine jl_y rfl (by decide) rfl (y_move rfl) ?_
      refine jl_pcall rfl (by decide) rfl (goes_func rfl) (fun w1 hw1 => pcall hw1 (up1_any _ i _ _ (cutL qs) w1 (by omega) (hm.keep hw1))) ?_
      refine jl_y rfl (by decide) rfl (y_move rfl) ?_
      refine jl_y rfl (by decide) rfl (y_extract rfl rfl) ?_
      refine jl_y rfl (by decide) rfl (y_extract rfl rfl) ?_
      refine jl_y rfl (by decide) rfl (y_assign rfl) ?_
      refine jl_y rfl (by decide) rfl (y_assign rfl) ?_
      refine jl_nil ?_
      refine jq_then ?_
      refine jc_seq ?_
      -- region 10
      refine jc_region ?_
      refine jl_y rfl (by decide) rfl (y_move rfl) ?_
      refine jl_y rfl (by decide) rfl (y_move rfl) ?_
      refine jl_y rfl (by decide) rfl (y_move rfl) ?_
      refine jl_pcall rfl (by decide) rfl (goes_func rfl) (fun w1 hw1 => pcall hw1 (rup_any _ i _ _ (cutL qs) w1 (by omega) (hm.keep hw1) hi)) ?_
      refine jl_y rfl (by decide) rfl (y_move rfl) ?_
      refine jl_y rfl (by decide) rfl (y_extract rfl rfl) ?_
      refine jl_y rfl (by decide) rfl (y_extract rfl rfl) ?_
      refine jl_y rfl (by decide) rfl (y_assign rfl) ?_
      refine jl_y rfl (by decide) rfl (y_assign rfl) ?_
      refine jl_nil ?_
      refine jq_then ?_
      refine jc_seq ?_
      -- region 11
      refine jc_region ?_
      refine jl_y rfl (by decide) rfl (y_move rfl) ?_
      refine jl_y rfl (by decide) rfl (y_move rfl) ?_
      refine jl_y rfl (by decide) rfl (y_seql rfl rfl) ?_
      refine jl_as (u := .bool true) (congrArg (fun b => Value.bool b) (decide_eq_true (rfl))) ?_
      refine jl_y rfl (by decide) rfl (y_move rfl) ?_
      refine jl_y rfl (by decide) rfl (y_move rfl) ?_
      refine jl_y rfl (by decide) rfl (y_move rfl) ?_
      refine jl_y rfl (by decide) rfl (y_eql rfl rfl) ?_
      refine jl_prop (fun h74 => ?_) (fun h74 => ?_)
      · first
        | (exfalso; omega)
        | (
          refine jl_y rfl (by decide) rfl (y_pick_true rfl rfl) ?_
          refine jl_y rfl (by decide) rfl (y_move rfl) ?_
          refine jl_y rfl (by decide) rfl (y_move rfl) ?_
          refine jl_y rfl (by decide) rfl (y_move rfl) ?_
          refine jl_pcall rfl (by decide) rfl (goes_func rfl) (fun w1 hw1 => pcall hw1 (rsame_any _ _ _ _ (pathV (cutL ps) i) (pathV (cutL ps) i) w1 (by have := pathV_length (cutL ps) i; omega) (Strs.of_own (hw1.get mem1)) (by have := pathV_length (cutL ps) i; omega) (Strs.of_own (hw1.get mem0)))) ?_
          refine jl_as (u := .bool true) (congrArg Value.bool (decide_eq_true rfl)) ?_
          refine jl_y rfl (by decide) rfl (y_pick_true rfl rfl) ?_
          refine jl_y rfl (by decide) rfl (y_move rfl) ?_
          refine jl_y rfl (by decide) rfl (y_move rfl) ?_
          refine jl_y rfl (by decide) rfl (y_move rfl) ?_
          refine jl_y rfl (by decide) rfl (y_eql rfl rfl) ?_
          refine jl_prop (fun h84 => ?_) (fun h84 => ?_)
          · first
            | (exfalso; omega)
            | (
              refine jl_y rfl (by decide) rfl (y_pick_true rfl rfl) ?_
              refine jl_y rfl (by decide) rfl (y_move rfl) ?_
              refine jl_y rfl (by decide) rfl (y_move rfl) ?_
              refine jl_y rfl (by decide) rfl (y_move rfl) ?_
              refine jl_y rfl (by decide) rfl (y_seql rfl rfl) ?_
              refine jl_as (u := .bool true) (congrArg (fun b => Value.bool b) (decide_eq_true (rfl))) ?_
              refine jl_y rfl (by decide) rfl (y_pick_true rfl rfl) ?_
              refine jl_y rfl (by decide) rfl (y_move rfl) ?_
              refine jl_y rfl (by decide) rfl (y_move rfl) ?_
              refine jl_y rfl (by decide) rfl (y_move rfl) ?_
              refine jl_y rfl (by decide) rfl (y_eql rfl rfl) ?_
              refine jl_prop (fun h94 => ?_) (fun h94 => ?_)
              · first
                | (exfalso; omega)
                | (
                  refine jl_y rfl (by decide) rfl (y_pick_true rfl rfl) ?_
                  refine jl_y rfl (by decide) rfl (y_move rfl) ?_
                  refine jl_pcall rfl (by decide) rfl (goes_func rfl) (fun w1 hw1 => pcall hw1 (fixed7_any w1)) ?_
                  refine jl_y rfl (by decide) rfl (y_pick_true rfl rfl) ?_
                  refine jl_y rfl (by decide) rfl (y_assign rfl) ?_
                  refine jl_nil ?_
                  refine jq_then ?_
                  refine jc_ret ?_
                  refine jq_ret1 rfl rfl ?_
                  exact fun _ hw => ⟨rfl, (hbx.ch.then hw.ch)⟩
                  )
              · first
                | (exfalso; omega)
                | (
                  refine jl_y rfl (by decide) rfl (y_pick_true rfl rfl) ?_
                  refine jl_y rfl (by decide) rfl (y_move rfl) ?_
                  refine jl_skip rfl (by decide) rfl ?_
                  refine jl_y rfl (by decide) rfl (y_pick_false rfl rfl) ?_
                  refine jl_y rfl (by decide) rfl (y_assign rfl) ?_
                  refine jl_nil ?_
                  refine jq_then ?_
                  refine jc_ret ?_
                  refine jq_ret1 rfl rfl ?_
                  exact fun _ hw => ⟨rfl, (hbx.ch.then hw.ch)⟩
                  )
              )
          · first
            | (exfalso; omega)
            | (
              refine jl_y rfl (by decide) rfl (y_pick_true rfl rfl) ?_
              refine jl_y rfl (by decide) rfl (y_move rfl) ?_
              refine jl_skip rfl (by decide) rfl ?_
              refine jl_skip rfl (by decide) rfl ?_
              refine jl_skip rfl (by decide) rfl ?_
              refine jl_y rfl (by decide) rfl (y_pick_false rfl rfl) ?_
              refine jl_y rfl (by decide) rfl (y_move rfl) ?_
              refine jl_skip rfl (by decide) rfl ?_
              refine jl_skip rfl (by decide) rfl ?_
              refine jl_skip rfl (by decide) rfl ?_
              refine jl_y rfl (by decide) rfl (y_pick_false rfl rfl) ?_
              refine jl_y rfl (by decide) rfl (y_move rfl) ?_
              refine jl_skip rfl (by decide) rfl ?_
              refine jl_y rfl (by decide) rfl (y_pick_false rfl rfl) ?_
              refine jl_y rfl (by decide) rfl (y_assign rfl) ?_
              refine jl_nil ?_
              refine jq_then ?_
              refine jc_ret ?_
              refine jq_ret1 rfl rfl ?_
              exact fun _ hw => ⟨rfl, (hbx.ch.then hw.ch)⟩
              )
          )
      · first
        | (exfalso; omega)
        | (
          refine jl_y rfl (by decide) rfl (y_pick_true rfl rfl) ?_
          refine jl_y rfl (by decide) rfl (y_move rfl) ?_
          refine jl_skip rfl (by decide) rfl ?_
          refine jl_skip rfl (by decide) rfl ?_
          refine jl_skip rfl (by decide) rfl ?_
          refine jl_y rfl (by decide) rfl (y_pick_false rfl rfl) ?_
          refine jl_y rfl (by decide) rfl (y_move rfl) ?_
          refine jl_skip rfl (by decide) rfl ?_
          refine jl_skip rfl (by decide) rfl ?_
          refine jl_skip rfl (by decide) rfl ?_
          refine jl_y rfl (by decide) rfl (y_pick_false rfl rfl) ?_
          refine jl_y rfl (by decide) rfl (y_move rfl) ?_
          refine jl_skip rfl (by decide) rfl ?_
          refine jl_skip rfl (by decide) rfl ?_
          refine jl_skip rfl (by decide) rfl ?_
          refine jl_y rfl (by decide) rfl (y_pick_false rfl rfl) ?_
          refine jl_y rfl (by decide) rfl (y_move rfl) ?_
          refine jl_skip rfl (by decide) rfl ?_
          refine jl_skip rfl (by decide) rfl ?_
          refine jl_skip rfl (by decide) rfl ?_
          refine jl_y rfl (by decide) rfl (y_pick_false rfl rfl) ?_
          refine jl_y rfl (by decide) rfl (y_move rfl) ?_
          refine jl_skip rfl (by decide) rfl ?_
          refine jl_y rfl (by decide) rfl (y_pick_false rfl rfl) ?_
          refine jl_y rfl (by decide) rfl (y_assign rfl) ?_
          refine jl_nil ?_
          refine jq_then ?_
          refine jc_ret ?_
          refine jq_ret1 rfl rfl ?_
          exact fun _ hw => ⟨rfl, (hbx.ch.then hw.ch)⟩
          )
      )

theorem merkleVerifies_any (root msg sig : ByteArray) (w : World) :
    Calls Try.prog 5 #[.string root, .string msg, .string sig] w fun e w' => e = .returned (.bool true) ∧ Ch [] w w' := by
  have hcm := cutS_size msg 100
  have hcs := cutS_size sig 400
  refine calls_of (n := 53) (E := [(0, .string root), (1, .string msg), (2, .string sig)]) (W := Hp w [] []) Try.func5 rfl rfl (Nat.le_of_ble_eq_true rfl) rfl (Hp.nil _ _) ?_
  refine jc_seq ?_
  -- region 0
  refine jc_region ?_
  refine jl_y rfl (by decide) rfl (y_assign rfl) ?_
  refine jl_nil ?_
  refine jq_then ?_
  refine jc_seq ?_
  -- region 1
  refine jc_region ?_
  refine jl_y rfl (by decide) rfl (y_move rfl) ?_
  refine jl_y rfl (by decide) rfl (y_move rfl) ?_
  refine jl_y rfl (by decide) rfl (y_len_str rfl) ?_
  refine jl_y rfl (by decide) rfl (y_min rfl rfl) ?_
  refine jl_y rfl (by decide) rfl (y_substr_hi rfl rfl (by omega) (by omega)) ?_
  refine jl_as (congrArg Value.string (cut_eq _ 100)) ?_
  refine jl_y rfl (by decide) rfl (y_assign rfl) ?_
  refine jl_nil ?_
  refine jq_then ?_
  refine jc_seq ?_
  -- region 2
  refine jc_region ?_
  refine jl_y rfl (by decide) rfl (y_move rfl) ?_
  refine jl_y rfl (by decide) rfl (y_move rfl) ?_
  refine jl_y rfl (by decide) rfl (y_len_str rfl) ?_
  refine jl_y rfl (by decide) rfl (y_min rfl rfl) ?_
  refine jl_y rfl (by decide) rfl (y_substr_hi rfl rfl (by omega) (by omega)) ?_
  refine jl_as (congrArg Value.string (cut_eq _ 400)) ?_
  refine jl_y rfl (by decide) rfl (y_assign rfl) ?_
  refine jl_nil ?_
  refine jq_then ?_
  refine jc_seq ?_
  -- region 3
  refine jc_region ?_
  refine jl_y rfl (by decide) rfl (y_move rfl) ?_
  refine jl_pcall rfl (by decide) rfl (goes_func rfl) (fun w1 hw1 => pcall hw1 (leaf_any _ w1 (by omega))) ?_
  refine jl_y rfl (by decide) rfl (y_move rfl) ?_
  refine jl_y rfl (by decide) rfl (y_extract rfl rfl) ?_
  refine jl_y rfl (by decide) rfl (y_extract rfl rfl) ?_
  refine jl_y rfl (by decide) rfl (y_assign rfl) ?_
  refine jl_y rfl (by decide) rfl (y_assign rfl) ?_
  refine jl_nil ?_
  refine jq_then ?_
  refine jc_seq ?_
  -- region 4
  refine jc_region ?_
  refine jl_y rfl (by decide) rfl (y_move rfl) ?_
  refine jl_pcall rfl (by decide) rfl (goes_func rfl) (fun w1 hw1 => pcall hw1 (rleaf_any _ w1 (by omega))) ?_
  refine jl_y rfl (by decide) rfl (y_move rfl) ?_
  refine jl_y rfl (by decide) rfl (y_extract rfl rfl) ?_
  refine jl_y rfl (by decide) rfl (y_extract rfl rfl) ?_
  refine jl_y rfl (by decide) rfl (y_assign rfl) ?_
  refine jl_y rfl (by decide) rfl (y_assign rfl) ?_
  refine jl_nil ?_
  refine jq_then ?_
  refine jc_seq ?_
  -- region 5
  refine jc_region ?_
  refine jl_y rfl (by decide) rfl (y_move rfl) ?_
  refine jl_y rfl (by decide) rfl (y_move rfl) ?_
  refine jl_y rfl (by decide) rfl (y_eql rfl rfl) ?_
  refine jl_prop (fun h33 => ?_) (fun h33 => ?_)
  · first
    | (exfalso; omega)
    | (
      refine jl_y rfl (by decide) rfl (y_move rfl) ?_
      refine jl_y rfl (by decide) rfl (y_move rfl) ?_
      refine jl_y rfl (by decide) rfl (y_move rfl) ?_
      refine jl_y rfl (by decide) rfl (y_eql rfl rfl) ?_
      refine jl_prop (fun h37 => ?_) (fun h37 => ?_)
      · first
        | (exfalso; omega)
        | (
          refine jl_y rfl (by decide) rfl (y_pick_true rfl rfl) ?_
          refine jl_y rfl (by decide) rfl (y_move rfl) ?_
          refine jl_y rfl (by decide) rfl (y_move rfl) ?_
          refine jl_y rfl (by decide) rfl (y_move rfl) ?_
          refine jl_y rfl (by decide) rfl (y_move rfl) ?_
          refine jl_pcall rfl (by decide) rfl (goes_func rfl) (fun w1 hw1 => pcall hw1 (verifyK_any _ _ _ w1 (by omega) (by omega))) ?_
          refine jl_y rfl (by decide) rfl (y_move rfl) ?_
          refine jl_y rfl (by decide) rfl (y_move rfl) ?_
          refine jl_y rfl (by decide) rfl (y_move rfl) ?_
          refine jl_pcall rfl (by decide) rfl (goes_func rfl) (fun w1 hw1 => pcall hw1 (rverifyK_any _ _ _ w1 (by omega) (by omega))) ?_
          refine jl_y rfl (by decide) rfl (y_eql_bool rfl rfl) ?_
          refine jl_as (u := .bool true) (congrArg Value.bool (by simp)) ?_
          refine jl_y rfl (by decide) rfl (y_pick_true rfl rfl) ?_
          refine jl_y rfl (by decide) rfl (y_move rfl) ?_
          refine jl_pcall rfl (by decide) rfl (goes_func rfl) (fun w1 hw1 => pcall hw1 (fixed7_any w1)) ?_
          refine jl_y rfl (by decide) rfl (y_pick_true rfl rfl) ?_
          refine jl_y rfl (by decide) rfl (y_assign rfl) ?_
          refine jl_nil ?_
          refine jq_then ?_
          refine jc_ret ?_
          refine jq_ret1 rfl rfl ?_
          exact fun _ hw => ⟨rfl, hw.ch⟩
          )
      · first
        | (exfalso; omega)
        | (
          refine jl_y rfl (by decide) rfl (y_pick_true rfl rfl) ?_
          refine jl_y rfl (by decide) rfl (y_move rfl) ?_
          refine jl_skip rfl (by decide) rfl ?_
          refine jl_skip rfl (by decide) rfl ?_
          refine jl_skip rfl (by decide) rfl ?_
          refine jl_skip rfl (by decide) rfl ?_
          refine jl_skip rfl (by decide) rfl ?_
          refine jl_skip rfl (by decide) rfl ?_
          refine jl_skip rfl (by decide) rfl ?_
          refine jl_skip rfl (by decide) rfl ?_
          refine jl_skip rfl (by decide) rfl ?_
          refine jl_y rfl (by decide) rfl (y_pick_false rfl rfl) ?_
          refine jl_y rfl (by decide) rfl (y_move rfl) ?_
          refine jl_skip rfl (by decide) rfl ?_
          refine jl_y rfl (by decide) rfl (y_pick_false rfl rfl) ?_
          refine jl_y rfl (by decide) rfl (y_assign rfl) ?_
          refine jl_nil ?_
          refine jq_then ?_
          refine jc_ret ?_
          refine jq_ret1 rfl rfl ?_
          exact fun _ hw => ⟨rfl, hw.ch⟩
          )
      )
  · first
    | (exfalso; omega)
    | (
      refine jl_y rfl (by decide) rfl (y_move rfl) ?_
      refine jl_skip rfl (by decide) rfl ?_
      refine jl_skip rfl (by decide) rfl ?_
      refine jl_skip rfl (by decide) rfl ?_
      refine jl_y rfl (by decide) rfl (y_pick_false rfl rfl) ?_
      refine jl_y rfl (by decide) rfl (y_move rfl) ?_
      refine jl_skip rfl (by decide) rfl ?_
      refine jl_skip rfl (by decide) rfl ?_
      refine jl_skip rfl (by decide) rfl ?_
      refine jl_skip rfl (by decide) rfl ?_
      refine jl_skip rfl (by decide) rfl ?_
      refine jl_skip rfl (by decide) rfl ?_
      refine jl_skip rfl (by decide) rfl ?_
      refine jl_skip rfl (by decide) rfl ?_
      refine jl_skip rfl (by decide) rfl ?_
      refine jl_y rfl (by decide) rfl (y_pick_false rfl rfl) ?_
      refine jl_y rfl (by decide) rfl (y_move rfl) ?_
      refine jl_skip rfl (by decide) rfl ?_
      refine jl_y rfl (by decide) rfl (y_pick_false rfl rfl) ?_
      refine jl_y rfl (by decide) rfl (y_assign rfl) ?_
      refine jl_nil ?_
      refine jq_then ?_
      refine jc_ret ?_
      refine jq_ret1 rfl rfl ?_
      exact fun _ hw => ⟨rfl, hw.ch⟩
      )

theorem merklePaths_any (ad : Option Addr) (c : Nat) (ps : List ByteArray) (tall : Int) (w : World) (hps : Strs w ad ps) (ht : fits .u8 tall) :
    Calls Try.prog 6 #[.slice ad ps.length c, .int .u8 tall] w fun e w' => e = .returned (.bool true) ∧ Ch [] w w' := by
  simp only [fits] at ht
  obtain ⟨h, hh⟩ : ∃ h : Nat, (h : Int) = tall % 5 := ⟨(tall % 5).toNat, by omega⟩
  have hh4 : h ≤ 4 := by omega
  have hp16 := pow_le16 hh4
  obtain ⟨hok, htl⟩ := mkL_ok ps hh4
  have hll := mkL_length ps (2 ^ h)
  have hro := root_ok hok
  have hro2 := hro.2
  have hrs := rootS_size hok
  refine calls_of (n := 99) (E := [(0, .slice ad ps.length c), (1, .int .u8 tall)]) (W := Hp w [] []) Try.func6 rfl rfl (Nat.le_of_ble_eq_true rfl) rfl (Hp.nil _ _) ?_
  refine jc_seq ?_
  -- region 0
  refine jc_region ?_
  refine jl_y rfl (by decide) rfl (y_assign rfl) ?_
  refine jl_nil ?_
  refine jq_then ?_
  refine jc_seq ?_
  -- region 1
  refine jc_region ?_
  refine jl_y rfl (by decide) rfl (y_move rfl) ?_
  refine jl_y rfl (by decide) rfl (y_rem rfl rfl (by omega) (by omega)) ?_
  refine jl_as (u := .int .u8 ((h : Nat) : Int)) (congrArg (Value.int .u8) hh.symm) ?_
  refine jl_y rfl (by decide) rfl (y_shl_fits (p := 1) (q := ((h : Nat) : Int)) rfl rfl (by omega) (by simp only [IntKind.bits]; omega) (by rw [pow_two]; simp only [fits]; omega)) ?_
  refine jl_as (u := .int .i64 ((2 ^ h : Nat) : Int)) (congrArg _ pow_two) ?_
  refine jl_y rfl (by decide) rfl (y_assign rfl) ?_
  refine jl_nil ?_
  refine jq_then ?_
  refine jc_seq ?_
  -- region 2
  refine jc_region ?_
  refine jl_m rfl (by decide) rfl (m_buildSlice (by decide) Built.nil) (fun b19 => ?_)
  refine jl_y rfl (by decide) rfl (y_assign rfl) ?_
  refine jl_nil ?_
  refine jq_then ?_
  refine jc_seq ?_
  refine jc_seq ?_
  -- region 3
  refine jc_region ?_
  refine jl_y rfl (by decide) rfl (y_assign rfl) ?_
  refine jl_nil ?_
  refine jq_then ?_
  refine jc_block ?_
  -- a loop
  refine jc_loop3 (fun (i : Nat) (adn : Option Addr) (cn : Nat) => [(0, .slice ad ps.length c), (1, .int .u8 tall), (5, .int .i64 ((2 ^ h : Nat) : Int)), (6, .slice adn i cn), (7, .int .i64 (i : Nat))]) (fun (i : Nat) (adn : Option Addr) (cn : Nat) => fun w' => i ≤ 2 ^ h ∧ Hp w [] [.row (adn) (i) (cn) 9 1 ((mkL ps i).map .string)] w') (fun (i : Nat) (adn : Option Addr) (cn : Nat) => 2 ^ h - i) 0 (some ⟨b19, 0, none⟩) 0 ?_ ?_ ?_
  · exact ⟨rfl, rfl, rfl, rfl, rfl, trivial⟩
  · exact fun _ h => ⟨by omega, h⟩
  · intro i adn cn
    refine jc_and (fun hi => ?_)
    refine jc_seq ?_
    refine jc_seq ?_
    -- region 4
    refine jc_region ?_
    refine jl_y rfl (by decide) rfl (y_move rfl) ?_
    refine jl_y rfl (by decide) rfl (y_move rfl) ?_
    refine jl_y rfl (by decide) rfl (y_lss rfl rfl) ?_
    refine jl_prop (fun h22 => ?_) (fun h22 => ?_)
    · first
      | (exfalso; omega)
      | (
        refine jl_nil ?_
        refine jq_then ?_
        refine jc_true rfl ?_
        refine jc_skip ?_
        refine jq_then ?_
        refine jc_seq ?_
        refine jc_block ?_
        refine jc_seq ?_
        -- region 6
        refine jc_region ?_
        refine jl_y rfl (by decide) rfl (y_assign rfl) ?_
        refine jl_nil ?_
        refine jq_then ?_
        refine jc_seq ?_
        refine jc_seq ?_
        -- region 7
        refine jc_region ?_
        refine jl_y rfl (by decide) rfl (y_move rfl) ?_
        refine jl_y rfl (by decide) rfl (y_move rfl) ?_
        refine jl_y rfl (by decide) rfl (y_len_slice rfl) ?_
        refine jl_y rfl (by decide) rfl (y_lss rfl rfl) ?_
        refine jl_prop (fun h28 => ?_) (fun h28 => ?_)
        · first
          | (exfalso; omega)
          | (
            obtain ⟨bb, oo, rfl, hc⟩ := hps (i) _ (at0_some (show i < (ps).length by omega))
            refine jl_nil ?_
            refine jq_then ?_
            refine jc_true rfl ?_
            -- region 8
            refine jc_draw (by kernel_rfl) (fun _ h => h.drew) ?_
            refine ju_y rfl (by decide) rfl (y_move rfl) ?_
            refine ju_y rfl (by decide) rfl (y_move rfl) ?_
            refine ju_y rfl (by decide) rfl (y_indexAddr_slice (off := oo + i) rfl rfl (by omega) (by omega) (by omega)) ?_
            refine ju_y rfl (by decide) rfl (y_load_old rfl hc (by simp)) ?_
            refine ju_y rfl (by decide) rfl (y_move rfl) ?_
            refine ju_y rfl (by decide) rfl (y_move rfl) ?_
            refine ju_y rfl (by decide) rfl (y_indexAddr_slice (off := oo + i) rfl rfl (by omega) (by omega) (by omega)) ?_
            refine ju_y rfl (by decide) rfl (y_load_old rfl hc (by simp)) ?_
            refine ju_y rfl (by decide) rfl (y_len_str rfl) ?_
            refine ju_y rfl (by decide) rfl (y_min rfl rfl) ?_
            refine ju_y rfl (by decide) rfl (y_substr_hi rfl rfl (by omega) (by omega)) ?_
            refine ju_as (congrArg Value.string (cut_eq _ 16)) ?_
            refine ju_y rfl (by decide) rfl (y_assign rfl) ?_
            refine ju_nil ?_
            refine jq_then ?_
            -- region 9
            refine jc_region ?_
            refine jl_y rfl (by decide) rfl (y_move rfl) ?_
            refine jl_y rfl (by decide) rfl (y_move rfl) ?_
            refine jl_y rfl (by decide) rfl (y_concat rfl rfl (by show _ + 16 ≤ _; first | (have := cutS_size (at0 ps i) 16; omega) | decide)) ?_
            refine jl_y rfl (by decide) rfl (y_substr_hi rfl rfl (by decide) (by rw [ByteArray.size_append]; show (16 : Int) ≤ ((_ + 16 : Nat) : Int); omega)) ?_
            refine jl_as (u := .string (mkLeaf ps i)) (congrArg Value.string (by first | (rw [mkLeaf_def, hout, hce]; rfl) | (rw [mkLeaf_def]; rfl))) ?_
            refine jl_m rfl (by decide) rfl (m_buildSlice (by decide) (Built.cell rfl rfl rfl (by repeat constructor) Built.nil)) (fun b44 => ?_)
            refine jl_m2 rfl (by decide) rfl (m_append rfl rfl (by first | exact del0 | exact del1 | exact del2 | exact del3 | exact del4) (by first | exact del0 | exact del1 | exact del2 | exact del3 | exact del4) rfl (by omega) (by omega)) (fun a45 c45 => ?_)
            refine jl_y rfl (by decide) rfl (y_assign rfl) ?_
            refine jl_nil ?_
            refine jq_block ?_
            refine jq_then ?_
            -- region 5
            refine jc_region ?_
            refine jl_y rfl (by decide) rfl (y_move rfl) ?_
            refine jl_y rfl (by decide) rfl (y_add_fits rfl rfl (by simp only [fits]; omega)) ?_
            refine jl_y rfl (by decide) rfl (y_assign rfl) ?_
            refine jl_nil ?_
            refine jq_round3 (i := i) (j := adn) (l := cn) (i + 1) a45 c45 ?_ ?_ ?_
            · omega
            · exact ⟨rfl, rfl, rfl, rfl, lk_int rfl (by omega), trivial⟩
            · exact fun _ h => ⟨by omega, h.cast (by rw [mkL_succ, List.map_append]; rfl)⟩
            )
        · first
          | (exfalso; omega)
          | (
            have hout := @at0_out ps i (by omega)
            have hce := cut_empty 16
            refine jl_nil ?_
            refine jq_then ?_
            refine jc_false rfl ?_
            refine jc_skip ?_
            refine jq_then ?_
            -- region 9
            refine jc_region ?_
            refine jl_y rfl (by decide) rfl (y_move rfl) ?_
            refine jl_y rfl (by decide) rfl (y_move rfl) ?_
            refine jl_y rfl (by decide) rfl (y_concat rfl rfl (by show _ + 16 ≤ _; first | (have := cutS_size (at0 ps i) 16; omega) | decide)) ?_
            refine jl_y rfl (by decide) rfl (y_substr_hi rfl rfl (by decide) (by rw [ByteArray.size_append]; show (16 : Int) ≤ ((_ + 16 : Nat) : Int); omega)) ?_
            refine jl_as (u := .string (mkLeaf ps i)) (congrArg Value.string (by first | (rw [mkLeaf_def, hout, hce]; rfl) | (rw [mkLeaf_def]; rfl))) ?_
            refine jl_m rfl (by decide) rfl (m_buildSlice (by decide) (Built.cell rfl rfl rfl (by repeat constructor) Built.nil)) (fun b44 => ?_)
            refine jl_m2 rfl (by decide) rfl (m_append rfl rfl (by first | exact del0 | exact del1 | exact del2 | exact del3 | exact del4) (by first | exact del0 | exact del1 | exact del2 | exact del3 | exact del4) rfl (by omega) (by omega)) (fun a45 c45 => ?_)
            refine jl_y rfl (by decide) rfl (y_assign rfl) ?_
            refine jl_nil ?_
            refine jq_block ?_
            refine jq_then ?_
            -- region 5
            refine jc_region ?_
            refine jl_y rfl (by decide) rfl (y_move rfl) ?_
            refine jl_y rfl (by decide) rfl (y_add_fits rfl rfl (by simp only [fits]; omega)) ?_
            refine jl_y rfl (by decide) rfl (y_assign rfl) ?_
            refine jl_nil ?_
            refine jq_round3 (i := i) (j := adn) (l := cn) (i + 1) a45 c45 ?_ ?_ ?_
            · omega
            · exact ⟨rfl, rfl, rfl, rfl, lk_int rfl (by omega), trivial⟩
            · exact fun _ h => ⟨by omega, h.cast (by rw [mkL_succ, List.map_append]; rfl)⟩
            )
        )
    · first
      | (exfalso; omega)
      | (
        refine jl_nil ?_
        refine jq_then ?_
        refine jc_false rfl ?_
        refine jc_exit ?_
        refine jq_then_exit ?_
        refine jq_then_exit ?_
        refine jq_hit ?_
        refine jq_then ?_
        refine jc_seq ?_
        -- region 10
        have hi2 : i = 2 ^ h := by omega
        subst hi2
        refine jc_rebase (fun wx hbx => ?_)
        have hl : Strs wx adn (mkL ps (2 ^ h)) := Strs.of_own (hbx.get mem0)
        refine jc_region ?_
        refine jl_y rfl (by decide) rfl (y_move rfl) ?_
        refine jl_as (u := .slice adn (mkL ps (2 ^ h)).length cn) (by rw [hll]) ?_
        refine jl_pcall rfl (by decide) rfl (goes_func rfl) (fun w1 hw1 => pcall hw1 (root1_any _ _ (mkL ps (2 ^ h)) w1 (by omega) (hl.keep hw1))) ?_
        refine jl_y rfl (by decide) rfl (y_move rfl) ?_
        refine jl_y rfl (by decide) rfl (y_extract rfl rfl) ?_
        refine jl_y rfl (by decide) rfl (y_extract rfl rfl) ?_
        refine jl_y rfl (by decide) rfl (y_assign rfl) ?_
        refine jl_y rfl (by decide) rfl (y_assign rfl) ?_
        refine jl_nil ?_
        refine jq_then ?_
        refine jc_seq ?_
        refine jc_seq ?_
        -- region 11
        refine jc_region ?_
        refine jl_y rfl (by decide) rfl (y_move rfl) ?_
        refine jl_y rfl (by decide) rfl (y_neq rfl rfl) ?_
        refine jl_prop (fun h52 => ?_) (fun h52 => ?_)
        · first
          | (exfalso; omega)
          | (
            refine jl_y rfl (by decide) rfl (y_move rfl) ?_
            refine jl_skip rfl (by decide) rfl ?_
            refine jl_skip rfl (by decide) rfl ?_
            refine jl_skip rfl (by decide) rfl ?_
            refine jl_y rfl (by decide) rfl (y_pick_true rfl rfl) ?_
            refine jl_nil ?_
            refine jq_then ?_
            refine jc_true rfl ?_
            refine jc_seq ?_
            -- region 12
            refine jc_region ?_
            refine jl_y rfl (by decide) rfl (y_assign rfl) ?_
            refine jl_nil ?_
            refine jq_then ?_
            refine jc_ret ?_
            refine jq_then_ret ?_
            refine jq_ret1 rfl rfl ?_
            exact fun _ hw => ⟨rfl, (hbx.ch.then hw.ch)⟩
            )
        · first
          | (exfalso; omega)
          | (
            refine jl_y rfl (by decide) rfl (y_move rfl) ?_
            refine jl_y rfl (by decide) rfl (y_move rfl) ?_
            refine jl_y rfl (by decide) rfl (y_len_str rfl) ?_
            refine jl_y rfl (by decide) rfl (y_neq rfl rfl) ?_
            refine jl_prop (fun h56 => ?_) (fun h56 => ?_)
            · first
              | (exfalso; omega)
              | (
                refine jl_y rfl (by decide) rfl (y_pick_false rfl rfl) ?_
                refine jl_nil ?_
                refine jq_then ?_
                refine jc_true rfl ?_
                refine jc_seq ?_
                -- region 12
                refine jc_region ?_
                refine jl_y rfl (by decide) rfl (y_assign rfl) ?_
                refine jl_nil ?_
                refine jq_then ?_
                refine jc_ret ?_
                refine jq_then_ret ?_
                refine jq_ret1 rfl rfl ?_
                exact fun _ hw => ⟨rfl, (hbx.ch.then hw.ch)⟩
                )
            · first
              | (exfalso; omega)
              | (
                refine jl_y rfl (by decide) rfl (y_pick_false rfl rfl) ?_
                refine jl_nil ?_
                refine jq_then ?_
                refine jc_false rfl ?_
                refine jc_skip ?_
                refine jq_then ?_
                refine jc_seq ?_
                refine jc_seq ?_
                -- region 13
                refine jc_region ?_
                refine jl_y rfl (by decide) rfl (y_assign rfl) ?_
                refine jl_nil ?_
                refine jq_then ?_
                refine jc_block ?_
                -- a loop
                refine jc_loop (fun (k : Nat) => [(1, .int .u8 tall), (5, .int .i64 ((2 ^ h : Nat) : Int)), (6, .slice adn (2 ^ h) cn), (9, .string (rootS (mkL ps (2 ^ h)))), (11, .int .i64 (k : Nat))]) (fun (k : Nat) => fun w' => k ≤ 2 ^ h ∧ Hp wx [] [] w') (fun (k : Nat) => 2 ^ h - k) 0 ?_ ?_ ?_
                · exact ⟨rfl, rfl, rfl, rfl, rfl, trivial⟩
                · exact fun _ h => ⟨by omega, h⟩
                · intro k
                  refine jc_and (fun hk => ?_)
                  refine jc_seq ?_
                  refine jc_seq ?_
                  -- region 14
                  refine jc_region ?_
                  refine jl_y rfl (by decide) rfl (y_move rfl) ?_
                  refine jl_y rfl (by decide) rfl (y_move rfl) ?_
                  refine jl_y rfl (by decide) rfl (y_lss rfl rfl) ?_
                  refine jl_prop (fun h60 => ?_) (fun h60 => ?_)
                  · first
                    | (exfalso; omega)
                    | (
                      have hpo := @path_ok (mkL ps (2 ^ h)) (k : Nat) ⟨hok, by omega, by omega⟩
                      rw [Int.toNat_natCast, htl] at hpo
                      have hpl := pathN_length (mkL ps (2 ^ h)) k h
                      have hup := up_path hok (i := k) (by omega)
                      rw [htl] at hup
                      have hpe := hpo.2
                      have hue := hup.2
                      refine jl_nil ?_
                      refine jq_then ?_
                      refine jc_true rfl ?_
                      refine jc_skip ?_
                      refine jq_then ?_
                      refine jc_seq ?_
                      refine jc_block ?_
                      refine jc_seq ?_
                      -- region 16
                      refine jc_region ?_
                      refine jl_y rfl (by decide) rfl (y_move rfl) ?_
                      refine jl_as (u := .slice adn (mkL ps (2 ^ h)).length cn) (by rw [hll]) ?_
                      refine jl_y rfl (by decide) rfl (y_move rfl) ?_
                      refine jl_fcall rfl (by decide) rfl (goes_func rfl) (fun w1 hw1 => path1_any _ _ (mkL ps (2 ^ h)) w1 (by omega) (hl.keep hw1) _) (fun ⟨pa, pc⟩ => ?_)
                      refine jl_y rfl (by decide) rfl (y_move rfl) ?_
                      refine jl_y rfl (by decide) rfl (y_extract rfl rfl) ?_
                      refine jl_as (u := .slice pa (pathN (mkL ps (2 ^ h)) k h).length pc) (by rw [hpo.1] <;> rfl) ?_
                      refine jl_y rfl (by decide) rfl (y_extract rfl rfl) ?_
                      refine jl_y rfl (by decide) rfl (y_assign rfl) ?_
                      refine jl_y rfl (by decide) rfl (y_assign rfl) ?_
                      refine jl_nil ?_
                      refine jq_then ?_
                      refine jc_seq ?_
                      -- region 17
                      refine jc_world (fun _ hw => hw.cast (H' := [.row (pa) ((pathN (mkL ps (2 ^ h)) k h).length) (pc) 9 1 ((pathN (mkL ps (2 ^ h)) k h).map .string)]) (by rw [hpo.1] <;> rfl)) ?_
                      obtain ⟨bb, oo, ea, hc⟩ := hl k _ (at0_some (show k < (mkL ps (2 ^ h)).length by omega))
                      subst ea
                      refine jc_region ?_
                      refine jl_y rfl (by decide) rfl (y_move rfl) ?_
                      refine jl_y rfl (by decide) rfl (y_move rfl) ?_
                      refine jl_y rfl (by decide) rfl (y_indexAddr_slice (off := oo + k) rfl rfl (by omega) (by omega) (by omega)) ?_
                      refine jl_y rfl (by decide) rfl (y_load_old rfl hc (by simp)) ?_
                      refine jl_y rfl (by decide) rfl (y_move rfl) ?_
                      refine jl_y rfl (by decide) rfl (y_move rfl) ?_
                      refine jl_pcall rfl (by decide) rfl (goes_func rfl) (fun w1 hw1 => pcall hw1 (up1_any _ _ _ _ (pathN (mkL ps (2 ^ h)) k h) w1 (by omega) (Strs.of_own (hw1.get mem0)))) ?_
                      refine jl_y rfl (by decide) rfl (y_move rfl) ?_
                      refine jl_y rfl (by decide) rfl (y_extract rfl rfl) ?_
                      refine jl_y rfl (by decide) rfl (y_extract rfl rfl) ?_
                      refine jl_y rfl (by decide) rfl (y_assign rfl) ?_
                      refine jl_y rfl (by decide) rfl (y_assign rfl) ?_
                      refine jl_nil ?_
                      refine jq_then ?_
                      refine jc_seq ?_
                      -- region 18
                      refine jc_region ?_
                      refine jl_y rfl (by decide) rfl (y_move rfl) ?_
                      refine jl_y rfl (by decide) rfl (y_neq rfl rfl) ?_
                      refine jl_prop (fun h80 => ?_) (fun h80 => ?_)
                      · first
                        | (exfalso; omega)
                        | (
                          refine jl_y rfl (by decide) rfl (y_move rfl) ?_
                          refine jl_skip rfl (by decide) rfl ?_
                          refine jl_skip rfl (by decide) rfl ?_
                          refine jl_y rfl (by decide) rfl (y_pick_true rfl rfl) ?_
                          refine jl_y rfl (by decide) rfl (y_move rfl) ?_
                          refine jl_skip rfl (by decide) rfl ?_
                          refine jl_skip rfl (by decide) rfl ?_
                          refine jl_skip rfl (by decide) rfl ?_
                          refine jl_skip rfl (by decide) rfl ?_
                          refine jl_skip rfl (by decide) rfl ?_
                          refine jl_skip rfl (by decide) rfl ?_
                          refine jl_y rfl (by decide) rfl (y_pick_true rfl rfl) ?_
                          refine jl_y rfl (by decide) rfl (y_move rfl) ?_
                          refine jl_skip rfl (by decide) rfl ?_
                          refine jl_skip rfl (by decide) rfl ?_
                          refine jl_skip rfl (by decide) rfl ?_
                          refine jl_y rfl (by decide) rfl (y_pick_true rfl rfl) ?_
                          refine jl_nil ?_
                          refine jq_then ?_
                          refine jc_true rfl ?_
                          refine jc_seq ?_
                          -- region 19
                          refine jc_region ?_
                          refine jl_y rfl (by decide) rfl (y_assign rfl) ?_
                          refine jl_nil ?_
                          refine jq_then ?_
                          refine jc_ret ?_
                          refine jq_block_ret ?_
                          refine jq_then_ret ?_
                          refine jq_then_ret ?_
                          refine jq_block_ret ?_
                          refine jq_then_ret ?_
                          refine jq_ret1 rfl rfl ?_
                          exact fun _ hw => ⟨rfl, (hbx.ch.then hw.ch)⟩
                          )
                      · first
                        | (exfalso; omega)
                        | (
                          refine jl_y rfl (by decide) rfl (y_move rfl) ?_
                          refine jl_y rfl (by decide) rfl (y_move rfl) ?_
                          refine jl_y rfl (by decide) rfl (y_neq rfl rfl) ?_
                          refine jl_prop (fun h83 => ?_) (fun h83 => ?_)
                          · first
                            | (exfalso; omega)
                            | (
                              refine jl_y rfl (by decide) rfl (y_pick_false rfl rfl) ?_
                              refine jl_y rfl (by decide) rfl (y_move rfl) ?_
                              refine jl_skip rfl (by decide) rfl ?_
                              refine jl_skip rfl (by decide) rfl ?_
                              refine jl_skip rfl (by decide) rfl ?_
                              refine jl_skip rfl (by decide) rfl ?_
                              refine jl_skip rfl (by decide) rfl ?_
                              refine jl_skip rfl (by decide) rfl ?_
                              refine jl_y rfl (by decide) rfl (y_pick_true rfl rfl) ?_
                              refine jl_y rfl (by decide) rfl (y_move rfl) ?_
                              refine jl_skip rfl (by decide) rfl ?_
                              refine jl_skip rfl (by decide) rfl ?_
                              refine jl_skip rfl (by decide) rfl ?_
                              refine jl_y rfl (by decide) rfl (y_pick_true rfl rfl) ?_
                              refine jl_nil ?_
                              refine jq_then ?_
                              refine jc_true rfl ?_
                              refine jc_seq ?_
                              -- region 19
                              refine jc_region ?_
                              refine jl_y rfl (by decide) rfl (y_assign rfl) ?_
                              refine jl_nil ?_
                              refine jq_then ?_
                              refine jc_ret ?_
                              refine jq_block_ret ?_
                              refine jq_then_ret ?_
                              refine jq_then_ret ?_
                              refine jq_block_ret ?_
                              refine jq_then_ret ?_
                              refine jq_ret1 rfl rfl ?_
                              exact fun _ hw => ⟨rfl, (hbx.ch.then hw.ch)⟩
                              )
                          · first
                            | (exfalso; omega)
                            | (
                              refine jl_y rfl (by decide) rfl (y_pick_false rfl rfl) ?_
                              refine jl_y rfl (by decide) rfl (y_move rfl) ?_
                              refine jl_y rfl (by decide) rfl (y_move rfl) ?_
                              refine jl_y rfl (by decide) rfl (y_len_slice rfl) ?_
                              refine jl_y rfl (by decide) rfl (y_move rfl) ?_
                              refine jl_y rfl (by decide) rfl (y_rem rfl rfl (by omega) (by omega)) ?_
                              first | refine jl_y rfl (by decide) rfl (y_conv_fits rfl (by simp only [fits]; omega)) ?_
                              refine jl_as (u := .int .i64 ((h : Nat) : Int)) (congrArg (Value.int .i64) hh.symm) ?_
                              refine jl_y rfl (by decide) rfl (y_neq rfl rfl) ?_
                              refine jl_as (u := .bool false) (congrArg Value.bool (decide_eq_false (by rw [hpl]; simp))) ?_
                              refine jl_y rfl (by decide) rfl (y_pick_false rfl rfl) ?_
                              refine jl_y rfl (by decide) rfl (y_move rfl) ?_
                              refine jl_y rfl (by decide) rfl (y_move rfl) ?_
                              refine jl_y rfl (by decide) rfl (y_move rfl) ?_
                              refine jl_y rfl (by decide) rfl (y_sneq rfl rfl) ?_
                              refine jl_as (u := .bool false) (congrArg (fun b => Value.bool (!b)) (decide_eq_true (hup.1))) ?_
                              refine jl_y rfl (by decide) rfl (y_pick_false rfl rfl) ?_
                              refine jl_nil ?_
                              refine jq_then ?_
                              refine jc_false rfl ?_
                              refine jc_skip ?_
                              refine jq_block ?_
                              refine jq_then ?_
                              -- region 15
                              refine jc_region ?_
                              refine jl_y rfl (by decide) rfl (y_move rfl) ?_
                              refine jl_y rfl (by decide) rfl (y_add_fits rfl rfl (by simp only [fits]; omega)) ?_
                              refine jl_y rfl (by decide) rfl (y_assign rfl) ?_
                              refine jl_nil ?_
                              refine jq_round (i := k) (k + 1) ?_ ?_ ?_
                              · omega
                              · exact ⟨rfl, rfl, rfl, rfl, lk_int rfl (by omega), trivial⟩
                              · exact fun _ h => ⟨by omega, h.part .nil⟩
                              )
                          )
                      )
                  · first
                    | (exfalso; omega)
                    | (
                      refine jl_nil ?_
                      refine jq_then ?_
                      refine jc_false rfl ?_
                      refine jc_exit ?_
                      refine jq_then_exit ?_
                      refine jq_then_exit ?_
                      refine jq_hit ?_
                      refine jq_then ?_
                      refine jc_seq ?_
                      -- region 20
                      refine jc_region ?_
                      refine jl_pcall rfl (by decide) rfl (goes_func rfl) (fun w1 hw1 => pcall hw1 (fixed7_any w1)) ?_
                      refine jl_y rfl (by decide) rfl (y_assign rfl) ?_
                      refine jl_nil ?_
                      refine jq_then ?_
                      refine jc_ret ?_
                      refine jq_ret1 rfl rfl ?_
                      exact fun _ hw => ⟨rfl, (hbx.ch.then hw.ch)⟩
                      )
                )
            )
        )

end Go.Proofs.Ytbemnhllcpopbaa