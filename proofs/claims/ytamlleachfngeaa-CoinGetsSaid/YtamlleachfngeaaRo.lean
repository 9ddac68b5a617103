/- The walks of the document's answer for coins, part two: what is read. Written by program (walk.py) out of a table of contracts and invariants. -/
import Derived.Test.YtamlleachfngeaaRn
import Derived.Test.YtamlleachfngeaaJu
namespace Go.Proofs.Ytamlleachfngeaa
open Go.RowKit
set_option maxRecDepth 100000
set_option maxHeartbeats 4000000
set_option linter.unusedVariables false
set_option linter.unusedSimpArgs false
theorem kind4 (k : Int) : k = 1 ∨ k = 2 ∨ k = 3 ∨ (k ≠ 1 ∧ k ≠ 2 ∧ k ≠ 3) := by omega

theorem rgetou_any (b : Nat) (S : ByteArray) (x : RS) (w : World) (hS : S.size ≤ 1000000000) (hok : okR S x) (hA : HA.ok w (.cells b [.string S, .int .i64 ((x).1 : Nat), .int .i64 (x).2])) :
  Calls Try.prog 71 #[.pointer (some ⟨b, 0, none⟩)] w fun e w' => e = .returned (.agg (Oup.c (rdOu S x).1).toArray) ∧ Upd w w' (.cells b [.string S, .int .i64 ((x).1 : Nat), .int .i64 (x).2]) (.cells b [.string S, .int .i64 (((rdOu S x).2).1 : Nat), .int .i64 ((rdOu S x).2).2]) := by
 refine calls_of (n := 57) (E := [(0, .pointer (some ⟨b, 0, none⟩))]) (W := Hp w [b] [.cells b [.string S, .int .i64 ((x).1 : Nat), .int .i64 (x).2]]) Try.func71 rfl rfl (Nat.le_of_ble_eq_true rfl) rfl (Hp.start rfl hA) ?_
 refine jsr ?_
 refine jl_m rfl (by decide) rfl (m_alloc) (fun b2 => ?_)
 refine jnt ?_
 refine jsr ?_
 refine jz ?_
 refine juc (goes_func rfl) (fun w1 hw1 => qbyte_any b S (x) w1 hS hok hw1) ?_
 refine jz ?_
 refine juc (goes_func rfl) (fun w1 hw1 => qnum_any b S (byS S (x)) w1 hS (byS_ok hok) hw1) ?_
 refine jy (y_build (Built.cell rfl rfl rfl (by repeat constructor) (Built.cell rfl rfl rfl (by repeat constructor) Built.nil))) ?_
 refine jl_m rfl (by decide) rfl (m_alloc) (fun b3 => ?_)
 refine jst ?_
 refine jnt ?_
 refine jsr ?_
 refine jz ?_
 refine juc (goes_func rfl) (fun w1 hw1 => qhash_any b S (nuS S (byS S (x))) w1 hS (nuS_ok (byS_ok hok)) hw1) ?_
 refine jz ?_
 refine jst ?_
 refine jnt ?_
 refine jc_seq ?_
 refine jc_seq ?_
 rcases kind4 (byV S x) with hk | hk | hk | hk
 ·skip
  refine jc_region ?_
  refine jz ?_
  refine jz ?_
  refine jy (y_lss rfl rfl) ?_
  refine jl_as (u := .bool false) (congrArg Value.bool (decide_eq_false (by omega))) ?_
  refine jz ?_
  refine jz ?_
  refine jz ?_
  refine jy (y_gtr rfl rfl) ?_
  refine jl_as (u := .bool false) (congrArg Value.bool (decide_eq_false (by omega))) ?_
  refine jy (y_pick_false rfl rfl) ?_
  refine jnt ?_
  refine jc_false rfl ?_
  refine jc_skip ?_
  refine jq_then ?_
  refine jc_seq ?_
  refine jsr ?_
  refine jz ?_
  refine jz ?_
  refine jy (y_eql rfl rfl) ?_
  refine jl_as (u := .bool false) (congrArg Value.bool (decide_eq_false (by omega))) ?_
  refine jz ?_
  refine jz ?_
  refine jz ?_
  refine jy (y_eql rfl rfl) ?_
  refine jl_as (u := .bool false) (congrArg Value.bool (decide_eq_false (by omega))) ?_
  refine jy (y_pick_false rfl rfl) ?_
  refine jnt ?_
  refine jc_false rfl ?_
  refine jc_skip ?_
  refine jq_then ?_
  refine jc_seq ?_
  refine jsr ?_
  refine jz ?_
  refine jz ?_
  refine jy (y_eql rfl rfl) ?_
  refine jl_as (u := .bool false) (congrArg Value.bool (decide_eq_false (by omega))) ?_
  refine jnt ?_
  refine jc_false rfl ?_
  refine jc_skip ?_
  refine jq_then ?_
  refine jc_seq ?_
  refine jsr ?_
  refine jz ?_
  refine jz ?_
  refine jy (y_eql rfl rfl) ?_
  refine jl_as (u := .bool false) (congrArg Value.bool (decide_eq_false (by omega))) ?_
  refine jnt ?_
  refine jc_false rfl ?_
  refine jc_skip ?_
  refine jq_then ?_
  refine jsr ?_
  refine jz ?_
  refine jst ?_
  refine jnt ?_
  refine jc_ret ?_
  refine jq_res (.inl rfl) rfl (.cell rfl (by first | exact ld_agg (by first | exact mem0 | exact mem1 | exact mem2 | exact mem3 | exact mem4 | exact mem5) (by repeat constructor) | exact ld_agg (by first | exact mem0 | exact mem1 | exact mem2 | exact mem3 | exact mem4 | exact mem5) (by assumption)) .nil) ?_
  first | exact fun w' hw => ⟨by rw [rdOu_1 (by omega)]; rfl, by rw [rdOu_1 (by omega)]; exact (hw.part (.cons (by first | exact del0 | exact del1 | exact del2 | exact del3) .nil)).updd rfl⟩ | exact fun w' hw => ⟨by rw [rdOu_3 (by omega)]; rfl, by rw [rdOu_3 (by omega)]; exact (hw.part (.cons (by first | exact del0 | exact del1 | exact del2 | exact del3) .nil)).updd rfl⟩ | exact fun w' hw => ⟨by rw [rdOu_2 (by omega)]; rfl, by rw [rdOu_2 (by omega)]; exact (hw.part (.cons (by first | exact del0 | exact del1 | exact del2 | exact del3) .nil)).updd rfl⟩ | exact fun w' hw => ⟨by rw [rdOu_0 (by omega) (by omega) (by omega)]; rfl, by rw [rdOu_0 (by omega) (by omega) (by omega)]; exact (hw.part (.cons (by first | exact del0 | exact del1 | exact del2 | exact del3) .nil)).updd rfl⟩
 ·skip
  refine jc_region ?_
  refine jz ?_
  refine jz ?_
  refine jy (y_lss rfl rfl) ?_
  refine jl_as (u := .bool false) (congrArg Value.bool (decide_eq_false (by omega))) ?_
  refine jz ?_
  refine jz ?_
  refine jz ?_
  refine jy (y_gtr rfl rfl) ?_
  refine jl_as (u := .bool false) (congrArg Value.bool (decide_eq_false (by omega))) ?_
  refine jy (y_pick_false rfl rfl) ?_
  refine jnt ?_
  refine jc_false rfl ?_
  refine jc_skip ?_
  refine jq_then ?_
  refine jc_seq ?_
  refine jsr ?_
  refine jz ?_
  refine jz ?_
  refine jy (y_eql rfl rfl) ?_
  refine jl_as (u := .bool true) (congrArg Value.bool (decide_eq_true (by omega))) ?_
  refine jz ?_
  refine jsk ?_
  refine jsk ?_
  refine jsk ?_
  refine jy (y_pick_true rfl rfl) ?_
  refine jnt ?_
  refine jc_true rfl ?_
  refine jsr ?_
  refine jz ?_
  refine juc (goes_func rfl) (fun w1 hw1 => qhash_any b S (haS S (nuS S (byS S (x)))) w1 hS (haS_ok (nuS_ok (byS_ok hok))) hw1) ?_
  refine jz ?_
  refine jst ?_
  refine jnt ?_
  refine jc_region ?_
  refine jz ?_
  refine juc (goes_func rfl) (fun w1 hw1 => qnum_any b S (haS S (haS S (nuS S (byS S (x))))) w1 hS (haS_ok (haS_ok (nuS_ok (byS_ok hok)))) hw1) ?_
  refine jpc (goes_func rfl) (fun w1 hw1 => rsmall_any (nuV S (haS S (haS S (nuS S (byS S (x)))))) w1 (nuV_range _ _)) ?_
  refine jz ?_
  refine jst ?_
  refine jnt ?_
  refine jc_seq ?_
  refine jsr ?_
  refine jz ?_
  refine jz ?_
  refine jy (y_eql rfl rfl) ?_
  refine jl_as (u := .bool true) (congrArg Value.bool (decide_eq_true (by omega))) ?_
  refine jnt ?_
  refine jc_true rfl ?_
  refine jsr ?_
  refine jz ?_
  refine juc (goes_func rfl) (fun w1 hw1 => qhash_any b S (nuS S (haS S (haS S (nuS S (byS S (x)))))) w1 hS (nuS_ok (haS_ok (haS_ok (nuS_ok (byS_ok hok))))) hw1) ?_
  refine jz ?_
  refine jst ?_
  refine jnt ?_
  refine jsr ?_
  refine jz ?_
  refine juc (goes_func rfl) (fun w1 hw1 => qnum_any b S (haS S (nuS S (haS S (haS S (nuS S (byS S (x))))))) w1 hS (haS_ok (nuS_ok (haS_ok (haS_ok (nuS_ok (byS_ok hok)))))) hw1) ?_
  refine jz ?_
  refine jst ?_
  refine jnt ?_
  refine jc_region ?_
  refine jz ?_
  refine juc (goes_func rfl) (fun w1 hw1 => qnum_any b S (nuS S (haS S (nuS S (haS S (haS S (nuS S (byS S (x)))))))) w1 hS (nuS_ok (haS_ok (nuS_ok (haS_ok (haS_ok (nuS_ok (byS_ok hok))))))) hw1) ?_
  refine jpc (goes_func rfl) (fun w1 hw1 => rsmall_any (nuV S (nuS S (haS S (nuS S (haS S (haS S (nuS S (byS S (x))))))))) w1 (nuV_range _ _)) ?_
  refine jz ?_
  refine jst ?_
  refine jnt ?_
  refine jc_seq ?_
  refine jsr ?_
  refine jz ?_
  refine jz ?_
  refine jy (y_eql rfl rfl) ?_
  refine jl_as (u := .bool false) (congrArg Value.bool (decide_eq_false (by omega))) ?_
  refine jnt ?_
  refine jc_false rfl ?_
  refine jc_skip ?_
  refine jq_then ?_
  refine jsr ?_
  refine jz ?_
  refine jst ?_
  refine jnt ?_
  refine jc_ret ?_
  refine jq_res (.inl rfl) rfl (.cell rfl (by first | exact ld_agg (by first | exact mem0 | exact mem1 | exact mem2 | exact mem3 | exact mem4 | exact mem5) (by repeat constructor) | exact ld_agg (by first | exact mem0 | exact mem1 | exact mem2 | exact mem3 | exact mem4 | exact mem5) (by assumption)) .nil) ?_
  first | exact fun w' hw => ⟨by rw [rdOu_1 (by omega)]; rfl, by rw [rdOu_1 (by omega)]; exact (hw.part (.cons (by first | exact del0 | exact del1 | exact del2 | exact del3) .nil)).updd rfl⟩ | exact fun w' hw => ⟨by rw [rdOu_3 (by omega)]; rfl, by rw [rdOu_3 (by omega)]; exact (hw.part (.cons (by first | exact del0 | exact del1 | exact del2 | exact del3) .nil)).updd rfl⟩ | exact fun w' hw => ⟨by rw [rdOu_2 (by omega)]; rfl, by rw [rdOu_2 (by omega)]; exact (hw.part (.cons (by first | exact del0 | exact del1 | exact del2 | exact del3) .nil)).updd rfl⟩ | exact fun w' hw => ⟨by rw [rdOu_0 (by omega) (by omega) (by omega)]; rfl, by rw [rdOu_0 (by omega) (by omega) (by omega)]; exact (hw.part (.cons (by first | exact del0 | exact del1 | exact del2 | exact del3) .nil)).updd rfl⟩
 ·skip
  refine jc_region ?_
  refine jz ?_
  refine jz ?_
  refine jy (y_lss rfl rfl) ?_
  refine jl_as (u := .bool false) (congrArg Value.bool (decide_eq_false (by omega))) ?_
  refine jz ?_
  refine jz ?_
  refine jz ?_
  refine jy (y_gtr rfl rfl) ?_
  refine jl_as (u := .bool false) (congrArg Value.bool (decide_eq_false (by omega))) ?_
  refine jy (y_pick_false rfl rfl) ?_
  refine jnt ?_
  refine jc_false rfl ?_
  refine jc_skip ?_
  refine jq_then ?_
  refine jc_seq ?_
  refine jsr ?_
  refine jz ?_
  refine jz ?_
  refine jy (y_eql rfl rfl) ?_
  refine jl_as (u := .bool false) (congrArg Value.bool (decide_eq_false (by omega))) ?_
  refine jz ?_
  refine jz ?_
  refine jz ?_
  refine jy (y_eql rfl rfl) ?_
  refine jl_as (u := .bool true) (congrArg Value.bool (decide_eq_true (by omega))) ?_
  refine jy (y_pick_false rfl rfl) ?_
  refine jnt ?_
  refine jc_true rfl ?_
  refine jsr ?_
  refine jz ?_
  refine juc (goes_func rfl) (fun w1 hw1 => qhash_any b S (haS S (nuS S (byS S (x)))) w1 hS (haS_ok (nuS_ok (byS_ok hok))) hw1) ?_
  refine jz ?_
  refine jst ?_
  refine jnt ?_
  refine jc_region ?_
  refine jz ?_
  refine juc (goes_func rfl) (fun w1 hw1 => qnum_any b S (haS S (haS S (nuS S (byS S (x))))) w1 hS (haS_ok (haS_ok (nuS_ok (byS_ok hok)))) hw1) ?_
  refine jpc (goes_func rfl) (fun w1 hw1 => rsmall_any (nuV S (haS S (haS S (nuS S (byS S (x)))))) w1 (nuV_range _ _)) ?_
  refine jz ?_
  refine jst ?_
  refine jnt ?_
  refine jc_seq ?_
  refine jsr ?_
  refine jz ?_
  refine jz ?_
  refine jy (y_eql rfl rfl) ?_
  refine jl_as (u := .bool false) (congrArg Value.bool (decide_eq_false (by omega))) ?_
  refine jnt ?_
  refine jc_false rfl ?_
  refine jc_skip ?_
  refine jq_then ?_
  refine jc_seq ?_
  refine jsr ?_
  refine jz ?_
  refine jz ?_
  refine jy (y_eql rfl rfl) ?_
  refine jl_as (u := .bool true) (congrArg Value.bool (decide_eq_true (by omega))) ?_
  refine jnt ?_
  refine jc_true rfl ?_
  refine jc_region ?_
  refine jz ?_
  refine juc (goes_func rfl) (fun w1 hw1 => qhash_any b S (nuS S (haS S (haS S (nuS S (byS S (x)))))) w1 hS (nuS_ok (haS_ok (haS_ok (nuS_ok (byS_ok hok))))) hw1) ?_
  refine jz ?_
  refine jst ?_
  refine jnt ?_
  refine jsr ?_
  refine jz ?_
  refine jst ?_
  refine jnt ?_
  refine jc_ret ?_
  refine jq_res (.inl rfl) rfl (.cell rfl (by first | exact ld_agg (by first | exact mem0 | exact mem1 | exact mem2 | exact mem3 | exact mem4 | exact mem5) (by repeat constructor) | exact ld_agg (by first | exact mem0 | exact mem1 | exact mem2 | exact mem3 | exact mem4 | exact mem5) (by assumption)) .nil) ?_
  first | exact fun w' hw => ⟨by rw [rdOu_1 (by omega)]; rfl, by rw [rdOu_1 (by omega)]; exact (hw.part (.cons (by first | exact del0 | exact del1 | exact del2 | exact del3) .nil)).updd rfl⟩ | exact fun w' hw => ⟨by rw [rdOu_3 (by omega)]; rfl, by rw [rdOu_3 (by omega)]; exact (hw.part (.cons (by first | exact del0 | exact del1 | exact del2 | exact del3) .nil)).updd rfl⟩ | exact fun w' hw => ⟨by rw [rdOu_2 (by omega)]; rfl, by rw [rdOu_2 (by omega)]; exact (hw.part (.cons (by first | exact del0 | exact del1 | exact del2 | exact del3) .nil)).updd rfl⟩ | exact fun w' hw => ⟨by rw [rdOu_0 (by omega) (by omega) (by omega)]; rfl, by rw [rdOu_0 (by omega) (by omega) (by omega)]; exact (hw.part (.cons (by first | exact del0 | exact del1 | exact del2 | exact del3) .nil)).updd rfl⟩
 ·skip
  refine jc_region ?_
  refine jz ?_
  refine jz ?_
  refine jy (y_lss rfl rfl) ?_
  refine jl_prop (fun h14 => ?_) (fun h14 => ?_)
  ·first
   | (exfalso; omega)
   | (
    refine jz ?_
    refine jsk ?_
    refine jsk ?_
    refine jsk ?_
    refine jy (y_pick_true rfl rfl) ?_
    refine jnt ?_
    refine jc_true rfl ?_
    refine jc_region ?_
    refine jz ?_
    refine juc (goes_func rfl) (fun w1 hw1 => qfail_any b S _ _ 4 w1 hw1) ?_
    refine jnt ?_
    refine jc_seq ?_
    refine jsr ?_
    refine jz ?_
    refine jz ?_
    refine jy (y_eql rfl rfl) ?_
    refine jl_as (u := .bool false) (congrArg Value.bool (decide_eq_false (by omega))) ?_
    refine jz ?_
    refine jz ?_
    refine jz ?_
    refine jy (y_eql rfl rfl) ?_
    refine jl_as (u := .bool false) (congrArg Value.bool (decide_eq_false (by omega))) ?_
    refine jy (y_pick_false rfl rfl) ?_
    refine jnt ?_
    refine jc_false rfl ?_
    refine jc_skip ?_
    refine jq_then ?_
    refine jc_seq ?_
    refine jsr ?_
    refine jz ?_
    refine jz ?_
    refine jy (y_eql rfl rfl) ?_
    refine jl_as (u := .bool false) (congrArg Value.bool (decide_eq_false (by omega))) ?_
    refine jnt ?_
    refine jc_false rfl ?_
    refine jc_skip ?_
    refine jq_then ?_
    refine jc_seq ?_
    refine jsr ?_
    refine jz ?_
    refine jz ?_
    refine jy (y_eql rfl rfl) ?_
    refine jl_as (u := .bool false) (congrArg Value.bool (decide_eq_false (by omega))) ?_
    refine jnt ?_
    refine jc_false rfl ?_
    refine jc_skip ?_
    refine jq_then ?_
    refine jsr ?_
    refine jz ?_
    refine jst ?_
    refine jnt ?_
    refine jc_ret ?_
    refine jq_res (.inl rfl) rfl (.cell rfl (by first | exact ld_agg (by first | exact mem0 | exact mem1 | exact mem2 | exact mem3 | exact mem4 | exact mem5) (by repeat constructor) | exact ld_agg (by first | exact mem0 | exact mem1 | exact mem2 | exact mem3 | exact mem4 | exact mem5) (by assumption)) .nil) ?_
    first | exact fun w' hw => ⟨by rw [rdOu_1 (by omega)]; rfl, by rw [rdOu_1 (by omega)]; exact (hw.part (.cons (by first | exact del0 | exact del1 | exact del2 | exact del3) .nil)).updd rfl⟩ | exact fun w' hw => ⟨by rw [rdOu_3 (by omega)]; rfl, by rw [rdOu_3 (by omega)]; exact (hw.part (.cons (by first | exact del0 | exact del1 | exact del2 | exact del3) .nil)).updd rfl⟩ | exact fun w' hw => ⟨by rw [rdOu_2 (by omega)]; rfl, by rw [rdOu_2 (by omega)]; exact (hw.part (.cons (by first | exact del0 | exact del1 | exact del2 | exact del3) .nil)).updd rfl⟩ | exact fun w' hw => ⟨by rw [rdOu_0 (by omega) (by omega) (by omega)]; rfl, by rw [rdOu_0 (by omega) (by omega) (by omega)]; exact (hw.part (.cons (by first | exact del0 | exact del1 | exact del2 | exact del3) .nil)).updd rfl⟩
    )
  ·first
   | (exfalso; omega)
   | (
    refine jz ?_
    refine jz ?_
    refine jz ?_
    refine jy (y_gtr rfl rfl) ?_
    refine jl_prop (fun h18 => ?_) (fun h18 => ?_)
    ·first
     | (exfalso; omega)
     | (
      refine jy (y_pick_false rfl rfl) ?_
      refine jnt ?_
      refine jc_true rfl ?_
      refine jc_region ?_
      refine jz ?_
      refine juc (goes_func rfl) (fun w1 hw1 => qfail_any b S _ _ 4 w1 hw1) ?_
      refine jnt ?_
      refine jc_seq ?_
      refine jsr ?_
      refine jz ?_
      refine jz ?_
      refine jy (y_eql rfl rfl) ?_
      refine jl_as (u := .bool false) (congrArg Value.bool (decide_eq_false (by omega))) ?_
      refine jz ?_
      refine jz ?_
      refine jz ?_
      refine jy (y_eql rfl rfl) ?_
      refine jl_as (u := .bool false) (congrArg Value.bool (decide_eq_false (by omega))) ?_
      refine jy (y_pick_false rfl rfl) ?_
      refine jnt ?_
      refine jc_false rfl ?_
      refine jc_skip ?_
      refine jq_then ?_
      refine jc_seq ?_
      refine jsr ?_
      refine jz ?_
      refine jz ?_
      refine jy (y_eql rfl rfl) ?_
      refine jl_as (u := .bool false) (congrArg Value.bool (decide_eq_false (by omega))) ?_
      refine jnt ?_
      refine jc_false rfl ?_
      refine jc_skip ?_
      refine jq_then ?_
      refine jc_seq ?_
      refine jsr ?_
      refine jz ?_
      refine jz ?_
      refine jy (y_eql rfl rfl) ?_
      refine jl_as (u := .bool false) (congrArg Value.bool (decide_eq_false (by omega))) ?_
      refine jnt ?_
      refine jc_false rfl ?_
      refine jc_skip ?_
      refine jq_then ?_
      refine jsr ?_
      refine jz ?_
      refine jst ?_
      refine jnt ?_
      refine jc_ret ?_
      refine jq_res (.inl rfl) rfl (.cell rfl (by first | exact ld_agg (by first | exact mem0 | exact mem1 | exact mem2 | exact mem3 | exact mem4 | exact mem5) (by repeat constructor) | exact ld_agg (by first | exact mem0 | exact mem1 | exact mem2 | exact mem3 | exact mem4 | exact mem5) (by assumption)) .nil) ?_
      first | exact fun w' hw => ⟨by rw [rdOu_1 (by omega)]; rfl, by rw [rdOu_1 (by omega)]; exact (hw.part (.cons (by first | exact del0 | exact del1 | exact del2 | exact del3) .nil)).updd rfl⟩ | exact fun w' hw => ⟨by rw [rdOu_3 (by omega)]; rfl, by rw [rdOu_3 (by omega)]; exact (hw.part (.cons (by first | exact del0 | exact del1 | exact del2 | exact del3) .nil)).updd rfl⟩ | exact fun w' hw => ⟨by rw [rdOu_2 (by omega)]; rfl, by rw [rdOu_2 (by omega)]; exact (hw.part (.cons (by first | exact del0 | exact del1 | exact del2 | exact del3) .nil)).updd rfl⟩ | exact fun w' hw => ⟨by rw [rdOu_0 (by omega) (by omega) (by omega)]; rfl, by rw [rdOu_0 (by omega) (by omega) (by omega)]; exact (hw.part (.cons (by first | exact del0 | exact del1 | exact del2 | exact del3) .nil)).updd rfl⟩
      )
    ·first
     | (exfalso; omega)
     | (
      refine jy (y_pick_false rfl rfl) ?_
      refine jnt ?_
      refine jc_false rfl ?_
      refine jc_skip ?_
      refine jq_then ?_
      refine jc_seq ?_
      refine jsr ?_
      refine jz ?_
      refine jz ?_
      refine jy (y_eql rfl rfl) ?_
      refine jl_as (u := .bool false) (congrArg Value.bool (decide_eq_false (by omega))) ?_
      refine jz ?_
      refine jz ?_
      refine jz ?_
      refine jy (y_eql rfl rfl) ?_
      refine jl_as (u := .bool false) (congrArg Value.bool (decide_eq_false (by omega))) ?_
      refine jy (y_pick_false rfl rfl) ?_
      refine jnt ?_
      refine jc_false rfl ?_
      refine jc_skip ?_
      refine jq_then ?_
      refine jc_seq ?_
      refine jsr ?_
      refine jz ?_
      refine jz ?_
      refine jy (y_eql rfl rfl) ?_
      refine jl_as (u := .bool false) (congrArg Value.bool (decide_eq_false (by omega))) ?_
      refine jnt ?_
      refine jc_false rfl ?_
      refine jc_skip ?_
      refine jq_then ?_
      refine jc_seq ?_
      refine jsr ?_
      refine jz ?_
      refine jz ?_
      refine jy (y_eql rfl rfl) ?_
      refine jl_as (u := .bool false) (congrArg Value.bool (decide_eq_false (by omega))) ?_
      refine jnt ?_
      refine jc_false rfl ?_
      refine jc_skip ?_
      refine jq_then ?_
      refine jsr ?_
      refine jz ?_
      refine jst ?_
      refine jnt ?_
      refine jc_ret ?_
      refine jq_res (.inl rfl) rfl (.cell rfl (by first | exact ld_agg (by first | exact mem0 | exact mem1 | exact mem2 | exact mem3 | exact mem4 | exact mem5) (by repeat constructor) | exact ld_agg (by first | exact mem0 | exact mem1 | exact mem2 | exact mem3 | exact mem4 | exact mem5) (by assumption)) .nil) ?_
      first | exact fun w' hw => ⟨by rw [rdOu_1 (by omega)]; rfl, by rw [rdOu_1 (by omega)]; exact (hw.part (.cons (by first | exact del0 | exact del1 | exact del2 | exact del3) .nil)).updd rfl⟩ | exact fun w' hw => ⟨by rw [rdOu_3 (by omega)]; rfl, by rw [rdOu_3 (by omega)]; exact (hw.part (.cons (by first | exact del0 | exact del1 | exact del2 | exact del3) .nil)).updd rfl⟩ | exact fun w' hw => ⟨by rw [rdOu_2 (by omega)]; rfl, by rw [rdOu_2 (by omega)]; exact (hw.part (.cons (by first | exact del0 | exact del1 | exact del2 | exact del3) .nil)).updd rfl⟩ | exact fun w' hw => ⟨by rw [rdOu_0 (by omega) (by omega) (by omega)]; rfl, by rw [rdOu_0 (by omega) (by omega) (by omega)]; exact (hw.part (.cons (by first | exact del0 | exact del1 | exact del2 | exact del3) .nil)).updd rfl⟩
      )
    )

theorem rcore_any (S : ByteArray) (w : World) (hS : S.size ≤ 1000000000) :
  Calls Try.prog 31 #[.string S] w fun e w' => ∃ pr : (Option Addr × Nat) × (Option Addr × Nat), e = .returned (.tuple #[.agg (Trx.c (coTrx S) pr.1.1 pr.1.2 pr.2.1 pr.2.2 none 0).toArray, .int .i64 (coErr S)]) ∧ Hp w [] [.row pr.1.1 ((coTrx S).ins.length) pr.1.2 75 4 (((coTrx S).ins).flatMap Inp.c), .row pr.2.1 ((coTrx S).outs.length) pr.2.2 79 9 (((coTrx S).outs).flatMap Oup.c)] w' := by
 have hn4 := cN_le S
 have hm4 := cM_le S
 have hm1 := hn4.2
 have hm2 := hm4.2
 refine calls_of (n := 78) (E := [(0, .string S)]) (W := Hp w [] []) Try.func31 rfl rfl (Nat.le_of_ble_eq_true rfl) rfl (Hp.nil _ _) ?_
 refine jsr ?_
 refine jl_m rfl (by decide) rfl (m_alloc) (fun b2 => ?_)
 refine jz ?_
 refine jnt ?_
 refine jsr ?_
 refine jy (y_build Built.nil) ?_
 refine jz ?_
 refine jy (y_build (Built.cell rfl rfl rfl (by repeat constructor) Built.nil)) ?_
 refine jl_m rfl (by decide) rfl (m_box rfl rfl) (fun br => ?_)
 refine jl_m rfl (by decide) rfl (m_alloc) (fun b4 => ?_)
 refine jst ?_
 refine jz ?_
 refine jnt ?_
 refine jc_join ([(2, .pointer (some ⟨b2, 0, none⟩)), (4, .pointer (some ⟨b4, 0, none⟩)), (5, .pointer (some ⟨br, 0, none⟩))]) (W' := Hp w [] [.cells b4 [.slice none (0) 0, .slice none (0) 0, .int .u64 0, .string ⟨#[]⟩, .string ⟨#[]⟩, .slice none 0 0], .cells br [.string S, .int .i64 ((cA S).1 : Nat), .int .i64 (cA S).2], .cells b2 [.slice none (0) 0, .slice none (0) 0, .int .u64 0, .string ⟨#[]⟩, .string ⟨#[]⟩, .slice none 0 0]]) ?_ ?_
 ·skip
  refine jsr ?_
  refine jz ?_
  refine juc (goes_func rfl) (fun w1 hw1 => qbyte_any br S (cA S) w1 hS (cA_ok S) hw1) ?_
  refine jz ?_
  refine jnt ?_
  refine jc_join ([(2, .pointer (some ⟨b2, 0, none⟩)), (4, .pointer (some ⟨b4, 0, none⟩)), (5, .pointer (some ⟨br, 0, none⟩)), (6, .int .i64 ((cN S : Nat) : Int))]) (W' := Hp w [] [.cells b4 [.slice none (0) 0, .slice none (0) 0, .int .u64 0, .string ⟨#[]⟩, .string ⟨#[]⟩, .slice none 0 0], .cells br [.string S, .int .i64 ((manyS S (cA S) 4).1 : Nat), .int .i64 (manyS S (cA S) 4).2], .cells b2 [.slice none (0) 0, .slice none (0) 0, .int .u64 0, .string ⟨#[]⟩, .string ⟨#[]⟩, .slice none 0 0]]) ?_ ?_
  ·skip
   refine jc_seq ?_
   refine jsr ?_
   refine jz ?_
   refine jnt ?_
   refine jc_block ?_
   refine jc_loop3 (fun (i : Nat) (a1 : Option Addr) (c1 : Nat) => [(2, .pointer (some ⟨b2, 0, none⟩)), (4, .pointer (some ⟨b4, 0, none⟩)), (5, .pointer (some ⟨br, 0, none⟩)), (6, .int .i64 ((cN S : Nat) : Int)), (7, .int .i64 (i : Nat))]) (fun (i : Nat) (a1 : Option Addr) (c1 : Nat) => fun w' => i ≤ cN S ∧ Hp w [] [.row a1 (i) c1 75 4 (((rdMany (rdIn S) (manyS S (cA S) 4) i).1).flatMap Inp.c), .cells br [.string S, .int .i64 (((rdMany (rdIn S) (manyS S (cA S) 4) i).2).1 : Nat), .int .i64 ((rdMany (rdIn S) (manyS S (cA S) 4) i).2).2], .cells b4 [.slice a1 (i) c1, .slice none (0) 0, .int .u64 0, .string ⟨#[]⟩, .string ⟨#[]⟩, .slice none 0 0], .cells b2 [.slice none (0) 0, .slice none (0) 0, .int .u64 0, .string ⟨#[]⟩, .string ⟨#[]⟩, .slice none 0 0]] w') (fun (i : Nat) (a1 : Option Addr) (c1 : Nat) => cN S - i) 0 none 0 ?_ ?_ ?_
   ·exact ⟨rfl, rfl, rfl, rfl, rfl, trivial⟩
   ·exact fun _ h => ⟨by omega, ((h.perm (List.Perm.swap _ _ _)).nilrow 75 4)⟩
   ·intro i a1 c1
    refine jc_and (fun hi => ?_)
    refine jc_seq ?_
    refine jsr ?_
    refine jz ?_
    refine jz ?_
    refine jy (y_lss rfl rfl) ?_
    refine jl_prop (fun h32 => ?_) (fun h32 => ?_)
    ·first
     | (exfalso; omega)
     | (
      refine jnt ?_
      refine jc_true rfl ?_
      refine jc_skip ?_
      refine jq_then ?_
      refine jc_seq ?_
      refine jc_block ?_
      refine jsr ?_
      refine jy (y_build Built.nil) ?_
      refine jl_m rfl (by decide) rfl (m_alloc) (fun b8 => ?_)
      refine jst ?_
      refine jnt ?_
      refine jsr ?_
      refine jz ?_
      refine juc (goes_func rfl) (fun w1 hw1 => qhash_any br S ((rdMany (rdIn S) (manyS S (cA S) 4) i).2) w1 hS (rdMany_ok (fun _ h => rdIn_ok h) (manyS_ok (cA_ok S)) i) hw1) ?_
      refine jz ?_
      refine jz ?_
      refine jst ?_
      refine jnt ?_
      refine jsr ?_
      refine jz ?_
      refine juc (goes_func rfl) (fun w1 hw1 => qbyte_any br S (haS S ((rdMany (rdIn S) (manyS S (cA S) 4) i).2)) w1 hS (haS_ok (rdMany_ok (fun _ h => rdIn_ok h) (manyS_ok (cA_ok S)) i)) hw1) ?_
      refine jz ?_
      refine jz ?_
      refine jst ?_
      refine jnt ?_
      refine jsr ?_
      refine jz ?_
      refine juc (goes_func rfl) (fun w1 hw1 => qbyte_any br S (byS S (haS S ((rdMany (rdIn S) (manyS S (cA S) 4) i).2))) w1 hS (byS_ok (haS_ok (rdMany_ok (fun _ h => rdIn_ok h) (manyS_ok (cA_ok S)) i))) hw1) ?_
      refine jz ?_
      refine jst ?_
      refine jnt ?_
      refine jc_region ?_
      refine jz ?_
      refine jz ?_
      refine jz ?_
      refine jl_m rfl (by decide) rfl (m_buildSlice (size := 4) (by decide) (Built.agg rfl rfl rfl (by repeat constructor) Built.nil)) (fun b50 => ?_)
      refine jl_m2 rfl (by decide) rfl (m_append rfl rfl (by first | exact del0 | exact del1 | exact del2 | exact del3 | exact del4) (by first | exact del0 | exact del1 | exact del2 | exact del3 | exact del4) rfl (by omega) (by omega)) (fun a51 c51 => ?_)
      refine jz ?_
      refine jst ?_
      refine jl_nil ?_
      refine jq_block ?_
      refine jq_then ?_
      refine jc_region ?_
      refine jz ?_
      refine jy (y_add_fits rfl rfl (by simp only [fits]; omega)) ?_
      refine jz ?_
      refine jl_nil ?_
      refine jq_round3 (i := i) (j := a1) (l := c1) (i + 1) a51 c51 ?_ ?_ ?_
      ·omega
      ·exact ⟨rfl, rfl, rfl, rfl, lk_int rfl (by omega), trivial⟩
      ·exact fun _ h => ⟨by omega, (h.part (.cons del0 (.cons del1 (.cons del1 (.cons del1 .nil))))).cast (by rw [← rdMany_flat]; rfl)⟩
      )
    ·first
     | (exfalso; omega)
     | (
      refine jnt ?_
      refine jc_false rfl ?_
      refine jc_exit ?_
      refine jq_then_exit ?_
      refine jq_then_exit ?_
      refine jq_hit ?_
      refine jq_then ?_
      refine jc_seq ?_
      have hie : i = cN S := by omega
      refine jc_world (fun _ h => h.cast (H' := [.row a1 (cN S) c1 75 4 (((cI S).1).flatMap Inp.c), .cells br [.string S, .int .i64 (((cI S).2).1 : Nat), .int .i64 ((cI S).2).2], .cells b4 [.slice a1 (cN S) c1, .slice none (0) 0, .int .u64 0, .string ⟨#[]⟩, .string ⟨#[]⟩, .slice none 0 0], .cells b2 [.slice none (0) 0, .slice none (0) 0, .int .u64 0, .string ⟨#[]⟩, .string ⟨#[]⟩, .slice none 0 0]]) (by subst hie; rw [cI_eq])) ?_
      refine jc_region ?_
      refine jz ?_
      refine juc (goes_func rfl) (fun w1 hw1 => qbyte_any br S ((cI S).2) w1 hS (cI_ok S) hw1) ?_
      refine jz ?_
      refine jnt ?_
      refine jc_join ([(2, .pointer (some ⟨b2, 0, none⟩)), (4, .pointer (some ⟨b4, 0, none⟩)), (5, .pointer (some ⟨br, 0, none⟩)), (9, .int .i64 ((cM S : Nat) : Int))]) (W' := Hp w [] [.row a1 (cN S) c1 75 4 (((cI S).1).flatMap Inp.c), .cells br [.string S, .int .i64 ((manyS S (cI S).2 4).1 : Nat), .int .i64 (manyS S (cI S).2 4).2], .cells b4 [.slice a1 (cN S) c1, .slice none (0) 0, .int .u64 0, .string ⟨#[]⟩, .string ⟨#[]⟩, .slice none 0 0], .cells b2 [.slice none (0) 0, .slice none (0) 0, .int .u64 0, .string ⟨#[]⟩, .string ⟨#[]⟩, .slice none 0 0]]) ?_ ?_
      ·skip
       refine jc_seq ?_
       refine jsr ?_
       refine jz ?_
       refine jnt ?_
       refine jc_block ?_
       refine jc_loop3 (fun (j : Nat) (a2 : Option Addr) (c2 : Nat) => [(2, .pointer (some ⟨b2, 0, none⟩)), (4, .pointer (some ⟨b4, 0, none⟩)), (5, .pointer (some ⟨br, 0, none⟩)), (9, .int .i64 ((cM S : Nat) : Int)), (10, .int .i64 (j : Nat))]) (fun (j : Nat) (a2 : Option Addr) (c2 : Nat) => fun w' => j ≤ cM S ∧ Hp w [] [.row a2 (j) c2 79 9 (((rdMany (rdOu S) (manyS S (cI S).2 4) j).1).flatMap Oup.c), .row a1 (cN S) c1 75 4 (((cI S).1).flatMap Inp.c), .cells b4 [.slice a1 (cN S) c1, .slice a2 (j) c2, .int .u64 0, .string ⟨#[]⟩, .string ⟨#[]⟩, .slice none 0 0], .cells br [.string S, .int .i64 (((rdMany (rdOu S) (manyS S (cI S).2 4) j).2).1 : Nat), .int .i64 ((rdMany (rdOu S) (manyS S (cI S).2 4) j).2).2], .cells b2 [.slice none (0) 0, .slice none (0) 0, .int .u64 0, .string ⟨#[]⟩, .string ⟨#[]⟩, .slice none 0 0]] w') (fun (j : Nat) (a2 : Option Addr) (c2 : Nat) => cM S - j) 0 none 0 ?_ ?_ ?_
       ·exact ⟨rfl, rfl, rfl, rfl, rfl, trivial⟩
       ·exact fun _ h => ⟨by omega, (h.part (F := [.row a1 (cN S) c1 75 4 (((cI S).1).flatMap Inp.c), .cells b4 [.slice a1 (cN S) c1, .slice none (0) 0, .int .u64 0, .string ⟨#[]⟩, .string ⟨#[]⟩, .slice none 0 0], .cells br [.string S, .int .i64 ((manyS S (cI S).2 4).1 : Nat), .int .i64 (manyS S (cI S).2 4).2], .cells b2 [.slice none (0) 0, .slice none (0) 0, .int .u64 0, .string ⟨#[]⟩, .string ⟨#[]⟩, .slice none 0 0]]) (.cons del0 (.cons del1 (.cons del0 (.cons del0 .nil))))).nilrow 79 9⟩
       ·intro j a2 c2
        refine jc_and (fun hj => ?_)
        refine jc_seq ?_
        refine jsr ?_
        refine jz ?_
        refine jz ?_
        refine jy (y_lss rfl rfl) ?_
        refine jl_prop (fun h65 => ?_) (fun h65 => ?_)
        ·first
         | (exfalso; omega)
         | (
          refine jnt ?_
          refine jc_true rfl ?_
          refine jc_skip ?_
          refine jq_then ?_
          refine jc_seq ?_
          refine jc_block ?_
          refine jc_schedC (Hp w [] [.cells b4 [.slice a1 (cN S) c1, .slice a2 (j) c2, .int .u64 0, .string ⟨#[]⟩, .string ⟨#[]⟩, .slice none 0 0]]) 7 [(0, true), (1, true), (2, true), (3, false), (4, false), (5, false), (6, true)] rfl (by kernel_rfl) (fun _ _ _ _ h => h) (fun _ h => (h.part (.cons (by first | exact del0 | exact del1 | exact del2 | exact del3) .nil)).drew) (fun _ h => h.drew) ?_
          simp only [pickO, nthO, List.drop_succ_cons, List.drop_zero]
          refine jkz ?_
          refine jkz ?_
          refine jkz ?_
          refine js_ucallH rfl (by decide) rfl (goes_func rfl) (by rfl) (fun w1 hw1 => rgetou_any br S (rdMany (rdOu S) (manyS S (cI S).2 4) j).2 w1 hS (rdMany_ok (fun _ h => rdOu_ok h) (manyS_ok (cI_ok S)) j) (hw1.get mem3)) (by first | exact rep0 | exact rep1 | exact rep2 | exact rep3 | exact rep4 | exact rep5) (by intro _ h; exact h.part (.cons (by first | exact del0 | exact del1 | exact del2 | exact del3) .nil)) ?_
          refine js_m (by intros; rename_i h; exact h.part (.cons (by first | exact del0 | exact del1 | exact del2 | exact del3) .nil)) rfl (by decide) rfl (m_buildSlice (size := 9) (by decide) (Built.agg rfl rfl rfl (by repeat constructor) Built.nil)) (fun b72 => ?_)
          refine js_m2z rfl (by decide) rfl (m_append rfl rfl (by first | exact del0 | exact del1 | exact del2 | exact del3 | exact del4) (by first | exact del0 | exact del1 | exact del2 | exact del3 | exact del4) rfl (by omega) (by omega)) (by intros; rename_i h; exact h.part (.cons (by first | exact del0 | exact del1 | exact del2 | exact del3) .nil)) (fun a73 c73 => ?_)
          refine jkz ?_
          refine js_nil ?_
          refine jst ?_
          refine jl_nil ?_
          refine jq_block ?_
          refine jq_then ?_
          refine jc_region ?_
          refine jz ?_
          refine jy (y_add_fits rfl rfl (by simp only [fits]; omega)) ?_
          refine jz ?_
          refine jl_nil ?_
          refine jq_round3 (i := j) (j := a2) (l := c2) (j + 1) a73 c73 ?_ ?_ ?_
          ·omega
          ·exact ⟨rfl, rfl, rfl, rfl, lk_int rfl (by omega), trivial⟩
          ·exact fun _ h => ⟨by omega, h.cast (by rw [← rdMany_flat]; rfl)⟩
          )
        ·first
         | (exfalso; omega)
         | (
          refine jnt ?_
          refine jc_false rfl ?_
          refine jc_exit ?_
          refine jq_then_exit ?_
          refine jq_then_exit ?_
          refine jq_hit ?_
          refine jq_then ?_
          refine jc_seq ?_
          have hje : j = cM S := by omega
          refine jc_world (fun _ h => h.cast (H' := [.row a2 (cM S) c2 79 9 (((cO S).1).flatMap Oup.c), .row a1 (cN S) c1 75 4 (((cI S).1).flatMap Inp.c), .cells b4 [.slice a1 (cN S) c1, .slice a2 (cM S) c2, .int .u64 0, .string ⟨#[]⟩, .string ⟨#[]⟩, .slice none 0 0], .cells br [.string S, .int .i64 (((cO S).2).1 : Nat), .int .i64 ((cO S).2).2], .cells b2 [.slice none (0) 0, .slice none (0) 0, .int .u64 0, .string ⟨#[]⟩, .string ⟨#[]⟩, .slice none 0 0]]) (by subst hje; rw [cO_eq])) ?_
          refine jc_tail 3 (by kernel_rfl) (fun _ h => h.drew) ?_
          simp only [List.take_succ_cons, List.take_zero, List.drop_succ_cons, List.drop_zero]
          refine jtz ?_
          refine jtz ?_
          refine jt_call rfl (by decide) rfl (goes_func rfl) (fun w1 hw1 => pcall hw1 (qend_any br S (cO S).2 w1 hS (cO_ok S) (CellAt.of_cells (hw1.get (A := .cells br [.string S, .int .i64 (((cO S).2).1 : Nat), .int .i64 ((cO S).2).2]) mem3) rfl) (CellAt.of_cells (hw1.get (A := .cells br [.string S, .int .i64 (((cO S).2).1 : Nat), .int .i64 ((cO S).2).2]) mem3) rfl) (CellAt.of_cells (hw1.get (A := .cells br [.string S, .int .i64 (((cO S).2).1 : Nat), .int .i64 ((cO S).2).2]) mem3) rfl))) ?_
          refine jt_nil ?_
          refine jst ?_
          refine jz ?_
          refine jnt ?_
          refine jc_ret ?_
          refine jq_res (.inl rfl) rfl (.cell rfl (by first | exact ld_agg (by first | exact mem0 | exact mem1 | exact mem2 | exact mem3 | exact mem4 | exact mem5) (by repeat constructor) | exact ld_agg (by first | exact mem0 | exact mem1 | exact mem2 | exact mem3 | exact mem4 | exact mem5) (by assumption)) (.tmp rfl .nil)) ?_
          exact fun _ hw => ⟨((a1, c1), (a2, c2)), by have e1 := coLen1 S; have e2 := coLen2 S; simp only [Trx.c, e1, e2]; rfl, by have e1 := coLen1 S; have e2 := coLen2 S; rw [e1, e2]; exact hw.part (.cons del1 (.cons del0 .nil))⟩
          )
      ·skip
       refine jsr ?_
       refine jz ?_
       refine jy (y_lss rfl rfl) ?_
       refine jl_prop (fun h56 => ?_) (fun h56 => ?_)
       ·first
        | (exfalso; omega)
        | (
         refine jz ?_
         refine jsk ?_
         refine jsk ?_
         refine jy (y_pick_true rfl rfl) ?_
         refine jnt ?_
         refine jc_true rfl ?_
         refine jsr ?_
         refine jz ?_
         refine juc (goes_func rfl) (fun w1 hw1 => qfail_any br S _ _ 4 w1 hw1) ?_
         refine jnt ?_
         refine jc_region ?_
         refine jz ?_
         refine jl_nil ?_
         refine jq_join ?_ ?_
         ·exact ⟨rfl, rfl, rfl, lk_int rfl (by rw [← hm2]; unfold manyV; first | rw [if_pos (by omega)] | rw [if_neg (by omega)]), trivial⟩
         ·first | exact fun _ h => h.cast (by rw [show manyS S (cI S).2 4 = byS S (cI S).2 by unfold manyS; rw [if_pos (by omega)]]) | exact fun _ h => h.cast (by rw [show manyS S (cI S).2 4 = flS (byS S (cI S).2) 4 by unfold manyS; rw [if_neg (by omega)]]; rfl)
         )
       ·first
        | (exfalso; omega)
        | (
         refine jz ?_
         refine jz ?_
         refine jy (y_gtr rfl rfl) ?_
         refine jl_prop (fun h59 => ?_) (fun h59 => ?_)
         ·first
          | (exfalso; omega)
          | (
           refine jy (y_pick_false rfl rfl) ?_
           refine jnt ?_
           refine jc_true rfl ?_
           refine jsr ?_
           refine jz ?_
           refine juc (goes_func rfl) (fun w1 hw1 => qfail_any br S _ _ 4 w1 hw1) ?_
           refine jnt ?_
           refine jc_region ?_
           refine jz ?_
           refine jl_nil ?_
           refine jq_join ?_ ?_
           ·exact ⟨rfl, rfl, rfl, lk_int rfl (by rw [← hm2]; unfold manyV; first | rw [if_pos (by omega)] | rw [if_neg (by omega)]), trivial⟩
           ·first | exact fun _ h => h.cast (by rw [show manyS S (cI S).2 4 = byS S (cI S).2 by unfold manyS; rw [if_pos (by omega)]]) | exact fun _ h => h.cast (by rw [show manyS S (cI S).2 4 = flS (byS S (cI S).2) 4 by unfold manyS; rw [if_neg (by omega)]]; rfl)
           )
         ·first
          | (exfalso; omega)
          | (
           refine jy (y_pick_false rfl rfl) ?_
           refine jnt ?_
           refine jc_false rfl ?_
           refine jc_skip ?_
           refine jq_join ?_ ?_
           ·exact ⟨rfl, rfl, rfl, lk_int rfl (by rw [← hm2]; unfold manyV; first | rw [if_pos (by omega)] | rw [if_neg (by omega)]), trivial⟩
           ·first | exact fun _ h => h.cast (by rw [show manyS S (cI S).2 4 = byS S (cI S).2 by unfold manyS; rw [if_pos (by omega)]]) | exact fun _ h => h.cast (by rw [show manyS S (cI S).2 4 = flS (byS S (cI S).2) 4 by unfold manyS; rw [if_neg (by omega)]]; rfl)
           )
         )
      )
  ·skip
   refine jsr ?_
   refine jz ?_
   refine jy (y_lss rfl rfl) ?_
   refine jl_prop (fun h23 => ?_) (fun h23 => ?_)
   ·first
    | (exfalso; omega)
    | (
     refine jz ?_
     refine jsk ?_
     refine jsk ?_
     refine jy (y_pick_true rfl rfl) ?_
     refine jnt ?_
     refine jc_true rfl ?_
     refine jsr ?_
     refine jz ?_
     refine juc (goes_func rfl) (fun w1 hw1 => qfail_any br S _ _ 4 w1 hw1) ?_
     refine jnt ?_
     refine jc_region ?_
     refine jz ?_
     refine jl_nil ?_
     refine jq_join ?_ ?_
     ·exact ⟨rfl, rfl, rfl, lk_int rfl (by rw [← hm1]; unfold manyV; first | rw [if_pos (by omega)] | rw [if_neg (by omega)]), trivial⟩
     ·first | exact fun _ h => h.cast (by rw [show manyS S (cA S) 4 = byS S (cA S) by unfold manyS; rw [if_pos (by omega)]]) | exact fun _ h => h.cast (by rw [show manyS S (cA S) 4 = flS (byS S (cA S)) 4 by unfold manyS; rw [if_neg (by omega)]]; rfl)
     )
   ·first
    | (exfalso; omega)
    | (
     refine jz ?_
     refine jz ?_
     refine jy (y_gtr rfl rfl) ?_
     refine jl_prop (fun h26 => ?_) (fun h26 => ?_)
     ·first
      | (exfalso; omega)
      | (
       refine jy (y_pick_false rfl rfl) ?_
       refine jnt ?_
       refine jc_true rfl ?_
       refine jsr ?_
       refine jz ?_
       refine juc (goes_func rfl) (fun w1 hw1 => qfail_any br S _ _ 4 w1 hw1) ?_
       refine jnt ?_
       refine jc_region ?_
       refine jz ?_
       refine jl_nil ?_
       refine jq_join ?_ ?_
       ·exact ⟨rfl, rfl, rfl, lk_int rfl (by rw [← hm1]; unfold manyV; first | rw [if_pos (by omega)] | rw [if_neg (by omega)]), trivial⟩
       ·first | exact fun _ h => h.cast (by rw [show manyS S (cA S) 4 = byS S (cA S) by unfold manyS; rw [if_pos (by omega)]]) | exact fun _ h => h.cast (by rw [show manyS S (cA S) 4 = flS (byS S (cA S)) 4 by unfold manyS; rw [if_neg (by omega)]]; rfl)
       )
     ·first
      | (exfalso; omega)
      | (
       refine jy (y_pick_false rfl rfl) ?_
       refine jnt ?_
       refine jc_false rfl ?_
       refine jc_skip ?_
       refine jq_join ?_ ?_
       ·exact ⟨rfl, rfl, rfl, lk_int rfl (by rw [← hm1]; unfold manyV; first | rw [if_pos (by omega)] | rw [if_neg (by omega)]), trivial⟩
       ·first | exact fun _ h => h.cast (by rw [show manyS S (cA S) 4 = byS S (cA S) by unfold manyS; rw [if_pos (by omega)]]) | exact fun _ h => h.cast (by rw [show manyS S (cA S) 4 = flS (byS S (cA S)) 4 by unfold manyS; rw [if_neg (by omega)]]; rfl)
       )
     )
 ·skip
  refine jsr ?_
  refine jz ?_
  refine juc (goes_func rfl) (fun w1 hw1 => qbyte_any br S (r00) w1 hS (r00_ok S) hw1) ?_
  refine jy (y_neq rfl rfl) ?_
  refine jl_prop (fun h17 => ?_) (fun h17 => ?_)
  ·first
   | (exfalso; omega)
   | (
    refine jnt ?_
    refine jc_true rfl ?_
    refine jc_region ?_
    refine jz ?_
    refine juc (goes_func rfl) (fun w1 hw1 => qfail_any br S _ _ 4 w1 hw1) ?_
    refine jl_nil ?_
    refine jq_join ?_ ?_
    ·exact ⟨rfl, rfl, rfl, trivial⟩
    ·first | exact fun _ h => h.cast (by rw [show cA S = byS S r00 by unfold cA; rw [if_pos (by omega)]]) | exact fun _ h => h.cast (by rw [show cA S = byS S r00 by unfold cA; rw [if_pos (by omega)]]; rfl) | exact fun _ h => h.cast (by rw [show cA S = flS (byS S r00) 4 by unfold cA; rw [if_neg (by omega)]]; rfl)
    )
  ·first
   | (exfalso; omega)
   | (
    refine jnt ?_
    refine jc_false rfl ?_
    refine jc_skip ?_
    refine jq_join ?_ ?_
    ·exact ⟨rfl, rfl, rfl, trivial⟩
    ·first | exact fun _ h => h.cast (by rw [show cA S = byS S r00 by unfold cA; rw [if_pos (by omega)]]) | exact fun _ h => h.cast (by rw [show cA S = byS S r00 by unfold cA; rw [if_pos (by omega)]]; rfl) | exact fun _ h => h.cast (by rw [show cA S = flS (byS S r00) 4 by unfold cA; rw [if_neg (by omega)]]; rfl)
    )

end Go.Proofs.Ytamlleachfngeaa