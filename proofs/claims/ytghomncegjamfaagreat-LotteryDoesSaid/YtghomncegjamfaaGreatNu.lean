/- The walks of packages num and turnstileref01. Written by program (walk.py) out of a table of contracts and invariants. -/
import Derived.Test.YtghomncegjamfaaGreatMnum
import Derived.Test.YtghomncegjamfaaGreatTd
import Derived.Test.YtghomncegjamfaaGreatJj
namespace Go.Proofs.YtghomncegjamfaaGreat
open Go.RowKit
set_option maxRecDepth 100000
set_option linter.unusedVariables false
set_option linter.unusedSimpArgs false
attribute [local irreducible] Yields Makes Writes

theorem nproduct_any (a b : Int) (w : World) (ha : fits .u64 a) (hb : fits .u64 b) :
  Calls Tryz.prog 77 #[.int .u64 a, .int .u64 b] w fun e w' => e = .returned (.tuple #[.int .u64 (a * b / 18446744073709551616), .int .u64 (a * b % 18446744073709551616)]) ∧ Ch [] w w' := by
 simp only [fits] at ha hb
 have hp := prod_halves a b ha.1 ha.2 hb.1 hb.2
 refine calls_of (n := 50) (E := [(0, .int .u64 a), (1, .int .u64 b)]) (W := Hp w [] []) Tryz.func77 rfl rfl (Nat.le_of_ble_eq_true rfl) rfl (Hp.nil _ _) ?_; refine jsr ?_; (iterate 2 refine jz ?_); refine jnt ?_; refine jsr ?_; refine jz ?_; refine jy (y_shr_by (m := 4294967296) rfl rfl (by decide) (by decide) (by decide)) ?_; refine jz ?_; refine jy (y_and rfl rfl) ?_; refine jl_as (congrArg _ (and_low32 _)) ?_; refine jz ?_; refine jy (y_shr_by (m := 4294967296) rfl rfl (by decide) (by decide) (by decide)) ?_; refine jz ?_; refine jy (y_and rfl rfl) ?_; refine jl_as (congrArg _ (and_low32 _)) ?_; (iterate 4 refine jz ?_); refine jnt ?_; refine jsr ?_; (iterate 2 refine jz ?_); refine jy (y_mul_u64 rfl rfl) ?_; (iterate 2 refine jz ?_); refine jy (y_mul_u64 rfl rfl) ?_; refine jy (y_shr_by (m := 4294967296) rfl rfl (by decide) (by decide) (by decide)) ?_; refine jy (y_add_u64 rfl rfl) ?_; refine jl_as (u := .int .u64 (midF a b)) rfl ?_; refine jz ?_; refine jnt ?_; refine jsr ?_; (iterate 2 refine jz ?_); refine jy (y_mul_u64 rfl rfl) ?_; refine jz ?_; refine jy (y_and rfl rfl) ?_; refine jl_as (congrArg _ (and_low32 _)) ?_; refine jy (y_add_u64 rfl rfl) ?_; refine jl_as (u := .int .u64 (otherF a b)) rfl ?_; refine jz ?_; refine jnt ?_; refine jsr ?_; (iterate 2 refine jz ?_); refine jy (y_mul_u64 rfl rfl) ?_; refine jz ?_; refine jy (y_shr_by (m := 4294967296) rfl rfl (by decide) (by decide) (by decide)) ?_; refine jy (y_add_u64 rfl rfl) ?_; refine jz ?_; refine jy (y_shr_by (m := 4294967296) rfl rfl (by decide) (by decide) (by decide)) ?_; refine jy (y_add_u64 rfl rfl) ?_; refine jl_as (u := .int .u64 (a * b / 18446744073709551616)) (congrArg _ hp.1) ?_; refine jz ?_; refine jy (y_shl_by_u64 (m := 4294967296) rfl rfl (by decide) (by decide) (by decide)) ?_; (iterate 2 refine jz ?_); refine jy (y_mul_u64 rfl rfl) ?_; refine jy (y_and rfl rfl) ?_; refine jl_as (congrArg _ (and_low32 _)) ?_; refine jy (y_or rfl rfl) ?_; refine jl_as (u := .int .u64 (a * b % 18446744073709551616)) (congrArg _ ((or_half _ _ (by omega) (by omega)).trans hp.2)) ?_; (iterate 2 refine jz ?_); refine jnt ?_; refine jc_ret ?_; refine jq_ret2 rfl rfl rfl ?_; exact fun _ hw => ⟨rfl, hw.ch⟩

theorem ndivide_any (hi lo c : Int) (w : World) (hh : fits .u64 hi) (hl : fits .u64 lo) (hc : fits .u64 c) (hc0 : c ≠ 0) :
  Calls Tryz.prog 78 #[.int .u64 hi, .int .u64 lo, .int .u64 c] w fun e w' => e = .returned (.tuple #[.int .u64 (qJ hi lo c 64), .int .u64 (rJ hi lo c 64), .bool (decide (c ≤ hi))]) ∧ Ch [] w w' := by
 simp only [fits] at hh hl hc
 have hq0 := qJ_zero hi lo c (by omega)
 refine calls_of (n := 47) (E := [(0, .int .u64 hi), (1, .int .u64 lo), (2, .int .u64 c)]) (W := Hp w [] []) Tryz.func78 rfl rfl (Nat.le_of_ble_eq_true rfl) rfl (Hp.nil _ _) ?_; refine jsr ?_; (iterate 3 refine jz ?_); refine jnt ?_; refine jsr ?_; (iterate 2 refine jz ?_); refine jy (y_geq rfl rfl) ?_; refine jz ?_; refine jnt ?_; refine jsr ?_; (iterate 2 refine jz ?_); refine jy (y_rem rfl rfl (by omega) (by omega)) ?_; refine jl_as (u := .int .u64 (rJ hi lo c 0)) (congrArg _ hq0.2.symm) ?_; refine jz ?_; refine jnt ?_; refine jc_seq ?_; refine jsr ?_; refine jz ?_; refine jnt ?_; refine jc_block ?_; refine jc_loop (fun (j : Nat) => [(1, .int .u64 lo), (2, .int .u64 c), (6, .int .u64 (qJ hi lo c j)), (7, .int .u64 (rJ hi lo c j)), (8, .bool (decide (c ≤ hi))), (9, .int .i64 (63 - (j : Int)))]) (fun (j : Nat) => fun w' => j ≤ 64 ∧ Hp w [] [] w') (fun (j : Nat) => 64 - j) 0 ?_ ?_ ?_
 ·exact ⟨rfl, rfl, lk_int rfl hq0.1.symm, rfl, rfl, rfl, trivial⟩
 ·exact fun _ h => ⟨by omega, h⟩
 ·intro j
  refine jc_and (fun hj => ?_)
  have hr := rJ_range hi lo c (by omega) j
  have hb := bitAt_range lo (63 - j)
  have hs := qr_step hi lo c (by omega) j
  have hq := qJ_range64 hi lo c (by omega) j
  refine jc_seq ?_; refine jsr ?_; refine jz ?_; refine jy (y_geq rfl rfl) ?_; refine jl_prop (fun h18 => ?_) (fun h18 => ?_)
  ·first | (exfalso; omega) | (
    refine jnt ?_; refine jc_true rfl ?_; refine jc_skip ?_; refine jq_then ?_; refine jc_seq ?_; refine jc_block ?_; refine jsr ?_; refine jz ?_; refine jy (y_shr_by (m := 9223372036854775808) rfl rfl (by decide) (by decide) (by decide)) ?_; refine jz ?_; refine jnt ?_; refine jsr ?_; refine jz ?_; refine jy (y_shl_by_u64 (m := 2) rfl rfl (by decide) (by decide) (by decide)) ?_; (iterate 2 refine jz ?_); refine jy (y_shr rfl rfl (by omega) (by simp only [IntKind.bits]; omega)) ?_; refine jl_as (u := .int .u64 (lo / 2 ^ (63 - j))) (by congr 3; omega) ?_; refine jy (y_and rfl rfl) ?_; refine jl_as (u := .int .u64 (bitAt lo (63 - j))) (congrArg _ (and_one _)) ?_; refine jy (y_or rfl rfl) ?_; refine jl_as (congrArg _ (or_bit _ _ (by omega) (by omega))) ?_; refine jz ?_; refine jnt ?_; refine jsr ?_; refine jz ?_; refine jy (y_shl_by_u64 (m := 2) rfl rfl (by decide) (by decide) (by decide)) ?_; refine jz ?_; refine jnt ?_; refine jsr ?_; refine jz ?_; refine jy (y_eql rfl rfl) ?_; refine jl_prop (fun h33 => ?_) (fun h33 => ?_)
    ·first | (exfalso; omega) | (
      refine jz ?_; (iterate 3 refine jsk ?_); refine jy (y_pick_true rfl rfl) ?_; refine jnt ?_; refine jc_true rfl ?_; refine jsr ?_; (iterate 2 refine jz ?_); refine jy (y_sub_u64 rfl rfl) ?_; refine jz ?_; refine jnt ?_; refine jc_region ?_; refine jz ?_; refine jy (y_or rfl rfl) ?_; refine jl_as (congrArg _ (or_bit _ _ (by omega) (by omega))) ?_; refine jz ?_; refine jl_nil ?_; refine jq_block ?_; refine jq_then ?_; refine jc_region ?_; refine jz ?_; refine jy (ysf rfl rfl) ?_; refine jz ?_; refine jl_nil ?_; refine jq_round (i := j) (j + 1) ?_ ?_ ?_
      ·omega
      ·exact ⟨rfl, rfl, lk_int rfl (by first | (have hs2 := (hs.1 (by omega)).1; have hq3 := hq (by omega); omega) | (have hs2 := (hs.2 (by omega)).1; have hq3 := hq (by omega); omega)), lk_int rfl (by first | (have hs2 := (hs.1 (by omega)).2; omega) | (have hs2 := (hs.2 (by omega)).2; omega)), rfl, lk_int rfl (by omega), trivial⟩
      ·exact fun _ h => ⟨by omega, h⟩
      )
    ·first | (exfalso; omega) | (
      (iterate 3 refine jz ?_); refine jy (y_geq rfl rfl) ?_; refine jl_prop (fun h37 => ?_) (fun h37 => ?_)
      ·first | (exfalso; omega) | (
        refine jy (y_pick_false rfl rfl) ?_; refine jnt ?_; refine jc_true rfl ?_; refine jsr ?_; (iterate 2 refine jz ?_); refine jy (y_sub_u64 rfl rfl) ?_; refine jz ?_; refine jnt ?_; refine jc_region ?_; refine jz ?_; refine jy (y_or rfl rfl) ?_; refine jl_as (congrArg _ (or_bit _ _ (by omega) (by omega))) ?_; refine jz ?_; refine jl_nil ?_; refine jq_block ?_; refine jq_then ?_; refine jc_region ?_; refine jz ?_; refine jy (ysf rfl rfl) ?_; refine jz ?_; refine jl_nil ?_; refine jq_round (i := j) (j + 1) ?_ ?_ ?_
        ·omega
        ·exact ⟨rfl, rfl, lk_int rfl (by first | (have hs2 := (hs.1 (by omega)).1; have hq3 := hq (by omega); omega) | (have hs2 := (hs.2 (by omega)).1; have hq3 := hq (by omega); omega)), lk_int rfl (by first | (have hs2 := (hs.1 (by omega)).2; omega) | (have hs2 := (hs.2 (by omega)).2; omega)), rfl, lk_int rfl (by omega), trivial⟩
        ·exact fun _ h => ⟨by omega, h⟩
        )
      ·first | (exfalso; omega) | (
        refine jy (y_pick_false rfl rfl) ?_; refine jnt ?_; refine jc_false rfl ?_; refine jc_skip ?_; refine jq_block ?_; refine jq_then ?_; refine jc_region ?_; refine jz ?_; refine jy (ysf rfl rfl) ?_; refine jz ?_; refine jl_nil ?_; refine jq_round (i := j) (j + 1) ?_ ?_ ?_
        ·omega
        ·exact ⟨rfl, rfl, lk_int rfl (by first | (have hs2 := (hs.1 (by omega)).1; have hq3 := hq (by omega); omega) | (have hs2 := (hs.2 (by omega)).1; have hq3 := hq (by omega); omega)), lk_int rfl (by first | (have hs2 := (hs.1 (by omega)).2; omega) | (have hs2 := (hs.2 (by omega)).2; omega)), rfl, lk_int rfl (by omega), trivial⟩
        ·exact fun _ h => ⟨by omega, h⟩
        )
      )
    )
  ·first | (exfalso; omega) | (refine jnt ?_; refine jc_false rfl ?_; refine jc_exit ?_; (iterate 2 refine jq_then_exit ?_); refine jq_hit ?_; refine jq_then ?_; refine jsr ?_; (iterate 6 refine jz ?_); refine jnt ?_; refine jc_ret ?_; refine jq_ret3 rfl rfl rfl rfl ?_; exact fun _ hw => ⟨by have e : j = 64 := (by omega); subst e; rfl, hw.ch⟩)

theorem muldiv_any (a b c : Int) (w : World) (ha : fits .u64 a) (hb : fits .u64 b) (hc : fits .u64 c) :
  Calls Tryz.prog 46 #[.int .u64 a, .int .u64 b, .int .u64 c] w fun e w' => e = .returned (.tuple #[.int .u64 (mdV a b c), .int .i64 (mdE a b c)]) ∧ Ch [] w w' := by
 simp only [fits] at ha hb hc
 have hn := prod_nonneg ha.1 hb.1
 have hn2 := prod_lt ha.1 ha.2 hb.1 hb.2
 refine calls_of (n := 31) (E := [(0, .int .u64 a), (1, .int .u64 b), (2, .int .u64 c)]) (W := Hp w [] []) Tryz.func46 rfl rfl (Nat.le_of_ble_eq_true rfl) rfl (Hp.nil _ _) ?_; refine jsr ?_; (iterate 2 refine jz ?_); refine jnt ?_; refine jc_seq ?_; refine jsr ?_; refine jz ?_; refine jy (y_eql rfl rfl) ?_; refine jl_prop (fun h14 => ?_) (fun h14 => ?_)
 ·first | (exfalso; omega) | (refine jnt ?_; refine jc_true rfl ?_; refine jsr ?_; (iterate 2 refine jz ?_); refine jnt ?_; refine jc_ret ?_; refine jq_then_ret ?_; refine jq_ret2 rfl rfl rfl ?_; exact fun _ hw => ⟨by unfold mdV mdE; rw [if_pos (by omega), if_pos (by omega)], hw.ch⟩)
 ·first | (exfalso; omega) | (
   refine jnt ?_; refine jc_false rfl ?_; refine jc_skip ?_; refine jq_then ?_; refine jsr ?_; (iterate 2 refine jz ?_); refine jpc (goes_func rfl) (fun w1 hw1 => nproduct_any _ _ w1 (by simp only [fits] at *; omega) (by simp only [fits] at *; omega)) ?_; (iterate 5 refine jz ?_); refine jnt ?_; refine jsr ?_; (iterate 3 refine jz ?_); refine jpc (goes_func rfl) (fun w1 hw1 => ndivide_any _ _ _ w1 (by simp only [fits] at *; omega) (by simp only [fits] at *; omega) (by simp only [fits] at *; omega) (by omega)) ?_; (iterate 4 refine jz ?_); refine jl_bool (fun h28 => ?_) (fun h28 => ?_)
   ·skip
    have hov := (over_iff (a * b) c (by omega)).1 (of_decide_eq_true h28)
    (iterate 3 refine jz ?_); refine jnt ?_; refine jc_seq ?_; refine jsr ?_; refine jz ?_; refine jnt ?_; refine jc_true rfl ?_; refine jsr ?_; (iterate 2 refine jz ?_); refine jnt ?_; refine jc_ret ?_; refine jq_then_ret ?_; refine jq_ret2 rfl rfl rfl ?_; exact fun _ hw => ⟨by unfold mdV mdE; rw [if_neg h14, if_neg h14, if_pos hov, if_pos hov], hw.ch⟩
   ·skip
    have hov0 := of_decide_eq_false h28
    have hov : ¬ 18446744073709551616 ≤ a * b / c := fun h => hov0 ((over_iff (a * b) c (by omega)).2 h)
    have hfin := div_end (a * b) c hn _ _ rfl rfl (by omega)
    (iterate 3 refine jz ?_); refine jnt ?_; refine jc_seq ?_; refine jsr ?_; refine jz ?_; refine jnt ?_; refine jc_false rfl ?_; refine jc_skip ?_; refine jq_then ?_; refine jsr ?_; (iterate 3 refine jz ?_); refine jnt ?_; refine jc_ret ?_; refine jq_ret2 rfl rfl rfl ?_; exact fun _ hw => ⟨by unfold mdV mdE; rw [if_neg h14, if_neg h14, if_neg hov, if_neg hov, ← hfin]; rfl, hw.ch⟩
   )

theorem rem_any (a b c : Int) (w : World) (ha : fits .u64 a) (hb : fits .u64 b) (hc : fits .u64 c) :
  Calls Tryz.prog 45 #[.int .u64 a, .int .u64 b, .int .u64 c] w fun e w' => e = .returned (.tuple #[.int .u64 (rmV a b c), .int .i64 (rmE c)]) ∧ Ch [] w w' := by
 simp only [fits] at ha hb hc
 have hn := prod_nonneg ha.1 hb.1
 have hn2 := prod_lt ha.1 ha.2 hb.1 hb.2
 refine calls_of (n := 30) (E := [(0, .int .u64 a), (1, .int .u64 b), (2, .int .u64 c)]) (W := Hp w [] []) Tryz.func45 rfl rfl (Nat.le_of_ble_eq_true rfl) rfl (Hp.nil _ _) ?_; refine jsr ?_; (iterate 2 refine jz ?_); refine jnt ?_; refine jc_seq ?_; refine jsr ?_; refine jz ?_; refine jy (y_eql rfl rfl) ?_; refine jl_prop (fun h14 => ?_) (fun h14 => ?_)
 ·first | (exfalso; omega) | (refine jnt ?_; refine jc_true rfl ?_; refine jsr ?_; (iterate 2 refine jz ?_); refine jnt ?_; refine jc_ret ?_; refine jq_then_ret ?_; refine jq_ret2 rfl rfl rfl ?_; exact fun _ hw => ⟨by unfold rmV rmE; rw [if_pos (by omega), if_pos (by omega)], hw.ch⟩)
 ·first | (exfalso; omega) | (refine jnt ?_; refine jc_false rfl ?_; refine jc_skip ?_; refine jq_then ?_; refine jsr ?_; (iterate 2 refine jz ?_); refine jpc (goes_func rfl) (fun w1 hw1 => nproduct_any _ _ w1 (by simp only [fits] at *; omega) (by simp only [fits] at *; omega)) ?_; (iterate 5 refine jz ?_); refine jnt ?_; refine jsr ?_; (iterate 3 refine jz ?_); refine jpc (goes_func rfl) (fun w1 hw1 => ndivide_any _ _ _ w1 (by simp only [fits] at *; omega) (by simp only [fits] at *; omega) (by simp only [fits] at *; omega) (by omega)) ?_; (iterate 7 refine jz ?_); refine jnt ?_; refine jsr ?_; (iterate 3 refine jz ?_); refine jnt ?_; refine jc_ret ?_; refine jq_ret2 rfl rfl rfl ?_; exact fun _ hw => ⟨by unfold rmV rmE; rw [if_neg (by omega), if_neg (by omega), ← rem_end (a * b) c _ _ rfl rfl]; rfl, hw.ch⟩)

theorem put_any (n : Int) (w : World) (hn : fits .u64 n) :
  Calls Tryz.prog 50 #[.int .u64 n] w fun e w' => e = .returned (.string (putS n)) ∧ Ch [] w w' := by
 simp only [fits] at hn
 refine calls_of (n := 23) (E := [(0, .int .u64 n)]) (W := Hp w [] []) Tryz.func50 rfl rfl (Nat.le_of_ble_eq_true rfl) rfl (Hp.nil _ _) ?_; refine jsr ?_; refine jz ?_; refine jnt ?_; refine jsr ?_; refine jl_m rfl (by decide) rfl (m_make rfl rfl (by first | omega | decide) (by first | omega | decide)) (fun b5 => ?_); refine jz ?_; refine jnt ?_; refine jc_seq ?_; refine jsr ?_; refine jz ?_; refine jy (y_len_slice rfl) ?_; refine jz ?_; refine jnt ?_; refine jc_block ?_; refine jc_loop (fun (i : Nat) => [(0, .int .u64 n), (3, .slice (some ⟨b5, 0, none⟩) 8 8), (7, .int .i64 8), (8, .int .i64 (i : Nat))]) (fun (i : Nat) => fun w' => i ≤ 8 ∧ Hp w [] [.row (some ⟨b5, 0, none⟩) (8) (8) 5 1 ((putP n i).map (.int .u8))] w') (fun (i : Nat) => 8 - i) 0 ?_ ?_ ?_
 ·exact ⟨rfl, rfl, rfl, rfl, trivial⟩
 ·exact fun _ h => ⟨by omega, h.cast (by rw [putP_zero, toList_madeCells_one]; rfl)⟩
 ·intro i
  refine jc_and (fun hi => ?_); refine jsr ?_; refine jy (y_lss rfl rfl) ?_; refine jl_prop (fun h9 => ?_) (fun h9 => ?_)
  ·first | (exfalso; omega) | (
    refine jnt ?_; refine jc_seq ?_; refine jc_true rfl ?_; refine jc_skip ?_; refine jq_then ?_; refine jc_seq ?_; refine jc_block ?_; refine jsr ?_; (iterate 2 refine jz ?_); refine jnt ?_; refine jc_region ?_; (iterate 2 refine jz ?_); refine jy (ysf rfl rfl) ?_; (iterate 2 refine jz ?_); refine jy (y_mul_fits rfl rfl (by simp only [fits]; omega)) ?_; refine jy (y_shr rfl rfl (by omega) (by simp only [IntKind.bits]; omega)) ?_; refine jl_as (u := .int .u64 (n / 2 ^ (8 * i))) (by congr 3) ?_; refine jy (y_conv_u8 rfl) ?_; refine jy (y_indexAddr_slice (off := 7 - i) rfl rfl (by omega) (by omega) (by omega)) ?_; refine jl_w rfl rfl (w_store_row rfl rfl rfl (by rw [List.length_map, putP_length _ _ (by omega)]; omega) rep0) ?_; refine jl_nil ?_; refine jq_block ?_; refine jq_then ?_; refine jc_region ?_; refine jy (yaf rfl rfl) ?_; refine jz ?_; refine jl_nil ?_; refine jq_round (i := i) (i + 1) ?_ ?_ ?_
    ·omega
    ·exact ⟨rfl, rfl, rfl, lk_int rfl (by omega), trivial⟩
    ·exact fun _ h => ⟨by omega, h.cast (by rw [map_set, putP_set _ _ (by omega)])⟩
    )
  ·first | (exfalso; omega) | (
    refine jnt ?_; refine jc_seq ?_; refine jc_false rfl ?_; refine jc_exit ?_; (iterate 2 refine jq_then_exit ?_); refine jq_hit ?_; refine jq_then ?_; refine jc_seq ?_
    have hi8 : i = 8 := by omega
    subst hi8
    refine jc_region ?_; refine jz ?_; refine jy (y_str_own rfl mem0 (U8s.map _)) ?_; refine jl_as (u := .string (putS n)) (by rw [putP_end]; rfl) ?_; refine jz ?_; refine jnt ?_; refine jc_ret ?_; refine jq_ret1 rfl rfl ?_; exact fun _ hw => ⟨rfl, hw.ch⟩
    )

theorem add_any (a b : Int) (w : World) (ha : fits .u64 a) (hb : fits .u64 b) :
  Calls Tryz.prog 48 #[.int .u64 a, .int .u64 b] w fun e w' => e = .returned (.tuple #[.int .u64 (addV a b), .int .i64 (addE a b)]) ∧ Ch [] w w' := by
 simp only [fits] at ha hb
 refine calls_of (n := 14) (E := [(0, .int .u64 a), (1, .int .u64 b)]) (W := Hp w [] []) Tryz.func48 rfl rfl (Nat.le_of_ble_eq_true rfl) rfl (Hp.nil _ _) ?_; refine jsr ?_; (iterate 2 refine jz ?_); refine jnt ?_; refine jc_seq ?_; refine jsr ?_; (iterate 2 refine jz ?_); refine jy (y_add_u64 rfl rfl) ?_; refine jz ?_; refine jy (y_lss rfl rfl) ?_; refine jl_prop (fun h10 => ?_) (fun h10 => ?_)
 ·first | (exfalso; omega) | (refine jnt ?_; refine jc_true rfl ?_; refine jsr ?_; (iterate 2 refine jz ?_); refine jnt ?_; refine jc_ret ?_; refine jq_then_ret ?_; refine jq_ret2 rfl rfl rfl ?_; exact fun _ hw => ⟨by unfold addV addE; rw [if_pos (by omega), if_pos (by omega)], hw.ch⟩)
 ·first | (exfalso; omega) | (refine jnt ?_; refine jc_false rfl ?_; refine jc_skip ?_; refine jq_then ?_; refine jsr ?_; (iterate 2 refine jz ?_); refine jy (y_add_u64 rfl rfl) ?_; (iterate 2 refine jz ?_); refine jnt ?_; refine jc_ret ?_; refine jq_ret2 rfl rfl rfl ?_; exact fun _ hw => ⟨by unfold addV addE; rw [if_neg (by omega), if_neg (by omega)]; exact congrArg (fun z => Ending.returned (.tuple #[.int .u64 z, .int .i64 0])) (Int.emod_eq_of_lt (by omega) (by omega)), hw.ch⟩)

theorem rtop_any (w : World) :
  Calls Tryz.prog 84 #[] w fun e w' => e = .returned (.int .u64 18446744073709551615) ∧ Ch [] w w' := by
 refine calls_of (n := 1) (E := []) (W := Hp w [] []) Tryz.func84 rfl rfl (Nat.le_of_ble_eq_true rfl) rfl (Hp.nil _ _) ?_; refine jsr ?_; refine jz ?_; refine jnt ?_; refine jsr ?_; refine jz ?_; refine jnt ?_; refine jc_ret ?_; refine jq_ret1 rfl rfl ?_; exact fun _ hw => ⟨rfl, hw.ch⟩

theorem rdig_any (n : Int) (w : World) (hn : fits .u64 n) :
  Calls Tryz.prog 121 #[.int .u64 n, .int .i64 4] w fun e w' => ∃ p : Nat × Nat, e = .returned (.slice (some ⟨p.1, 0, none⟩) 4 p.2) ∧ Fresh w w' (.row (some ⟨p.1, 0, none⟩) (4) (p.2) 30 1 ((dgtL n 4).map (.int .u64))) := by
 simp only [fits] at hn
 refine calls_of (n := 21) (E := [(0, .int .u64 n), (1, .int .i64 4)]) (W := Hp w [] []) Tryz.func121 rfl rfl (Nat.le_of_ble_eq_true rfl) rfl (Hp.nil _ _) ?_; refine jsr ?_; refine jz ?_; refine jnt ?_; refine jsr ?_; refine jl_m rfl (by decide) rfl (m_buildSlice (by decide) Built.nil) (fun b7 => ?_); refine jz ?_; refine jnt ?_; refine jc_seq ?_; refine jsr ?_; refine jz ?_; refine jnt ?_; refine jc_block ?_; refine jc_loop3 (fun (i : Nat) (ad : Option Addr) (cap : Nat) => [(0, .int .u64 (n / 65536 ^ i)), (1, .int .i64 4), (5, .slice ad i cap), (6, .int .i64 (i : Nat))]) (fun (i : Nat) (ad : Option Addr) (cap : Nat) => fun w' => i ≤ 4 ∧ Hp w [] [.row (ad) (i) (cap) 30 1 ((dgtL n i).map (.int .u64))] w') (fun (i : Nat) (ad : Option Addr) (cap : Nat) => 4 - i) 0 (some ⟨b7, 0, none⟩) 0 ?_ ?_ ?_
 ·exact ⟨lk_int rfl (by simp), rfl, rfl, rfl, trivial⟩
 ·exact fun _ h => ⟨by omega, h⟩
 ·intro i ad cap
  refine jc_and (fun hi => ?_)
  have hp0 : (0 : Int) ≤ n / 65536 ^ i := Int.ediv_nonneg hn.1 (Int.le_of_lt (Int.pow_pos (by decide)))
  have hp1 : n / 65536 ^ i ≤ n := Int.ediv_le_self _ hn.1
  refine jc_seq ?_; refine jsr ?_; (iterate 2 refine jz ?_); refine jy (y_lss rfl rfl) ?_; refine jl_prop (fun h10 => ?_) (fun h10 => ?_)
  ·first | (exfalso; omega) | (
    refine jnt ?_; refine jc_true rfl ?_; refine jc_skip ?_; refine jq_then ?_; refine jc_seq ?_; refine jc_block ?_; refine jsr ?_; (iterate 2 refine jz ?_); refine jy (y_rem rfl rfl (by omega) (by omega)) ?_; refine jl_as (u := .int .u64 (dgt n i)) rfl ?_; refine jl_m rfl (by decide) rfl (m_buildSlice (by decide) (Built.cell rfl rfl rfl (by repeat constructor) Built.nil)) (fun b16 => ?_); refine jl_m2 rfl (by decide) rfl (m_append rfl rfl (by first | exact del0 | exact del1 | exact del2 | exact del3 | exact del4) (by first | exact del0 | exact del1 | exact del2 | exact del3 | exact del4) rfl (by omega) (by omega)) (fun ad17 cap17 => ?_); refine jz ?_; refine jnt ?_; refine jc_region ?_; refine jz ?_; refine jy (y_quo rfl rfl (by omega) (by omega) (by simp only [fits]; omega)) ?_; refine jl_as (congrArg _ (div_pow65536 n i)) ?_; refine jz ?_; refine jl_nil ?_; refine jq_block ?_; refine jq_then ?_; refine jc_region ?_; refine jz ?_; refine jy (yaf rfl rfl) ?_; refine jz ?_; refine jl_nil ?_; refine jq_round3 (i := i) (j := ad) (l := cap) (i + 1) ad17 cap17 ?_ ?_ ?_
    ·omega
    ·exact ⟨rfl, rfl, rfl, lk_int rfl (by omega), trivial⟩
    ·exact fun _ h => ⟨by omega, h.cast (by rw [show dgtL n (i + 1) = dgtL n i ++ [dgt n i] from rfl, List.map_append]; rfl)⟩
    )
  ·first | (exfalso; omega) | (
    refine jnt ?_; refine jc_false rfl ?_; refine jc_exit ?_; (iterate 2 refine jq_then_exit ?_); refine jq_hit ?_; refine jq_then ?_; refine jsr ?_; (iterate 2 refine jz ?_); refine jnt ?_; refine jc_ret ?_; refine jq_ret1 rfl rfl ?_
    exact fun w' hw => (by
     obtain ⟨b', rfl⟩ := row_some (hw.ok _ (List.mem_cons_self ..)) (by omega)
     obtain rfl : i = 4 := by omega
     exact ⟨(b', cap), rfl, hw.fresh⟩)
    )

theorem rproduct_any (a b : Int) (w : World) (ha : fits .u64 a) (hb : fits .u64 b) :
  Calls Tryz.prog 98 #[.int .u64 a, .int .u64 b] w fun e w' => ∃ b', e = .returned (.slice (some ⟨b', 0, none⟩) 8 9) ∧ Fresh w w' (.row (some ⟨b', 0, none⟩) (9) (9) 30 1 ((carS a b 8).map (.int .u64))) := by
 simp only [fits] at ha hb
 refine calls_of (n := 93) (E := [(0, .int .u64 a), (1, .int .u64 b)]) (W := Hp w [] []) Tryz.func98 rfl rfl (Nat.le_of_ble_eq_true rfl) rfl (Hp.nil _ _) ?_; refine jsr ?_; refine jz ?_; refine jnt ?_; refine jc_seq ?_; refine jc_tree 7 (.step 0 true (.step 2 true (.fork 1 (.fork 3 (.step 5 true (.step 6 true (.step 4 false .nil))) 4 (.step 3 false (.step 5 true (.step 6 true .nil)))) 4 (.step 1 false (.step 3 false (.step 5 true (.step 6 true .nil))))))) (by kernel_rfl) (fun _ _ _ _ h => h) (fun _ h => h.drew) ?_
 simp only [List.drop_succ_cons, List.drop_zero]
 (iterate 2 refine jf_take rfl rfl (by decide) rfl (y_move rfl) ?_); refine jf_fork ?_ ?_
 ·skip
  refine jf_fcall (by intros; rename_i h; first | exact h | exact h.pop | exact h.pop.pop | exact h.pop.pop.pop | exact h.pop.pop.pop.pop | exact h.pop.pop.pop.pop.pop | exact h.pop.pop.pop.pop.pop.pop | exact h.part .nil) rfl rfl (by decide) rfl (goes_func rfl) (fun w1 hw1 => rdig_any _ w1 (by simp only [fits] at *; omega)) (fun pa => ?_); refine jf_fork ?_ ?_
  ·skip
   refine jf_fcall (by intros; rename_i h; first | exact h | exact h.pop | exact h.pop.pop | exact h.pop.pop.pop | exact h.pop.pop.pop.pop | exact h.pop.pop.pop.pop.pop | exact h.pop.pop.pop.pop.pop.pop | exact h.part .nil) rfl rfl (by decide) rfl (goes_func rfl) (fun w1 hw1 => rdig_any _ w1 (by simp only [fits] at *; omega)) (fun pb => ?_); (iterate 2 refine jf_take rfl rfl (by decide) rfl (y_assign rfl) ?_); refine jf_m (by intros; rename_i h; first | exact h | exact h.pop | exact h.pop.pop | exact h.pop.pop.pop | exact h.pop.pop.pop.pop | exact h.pop.pop.pop.pop.pop | exact h.pop.pop.pop.pop.pop.pop | exact h.part .nil) rfl rfl (by decide) rfl (m_make rfl rfl (by decide) (by decide)) (fun bo => ?_); refine jf_nil ?_; refine jz ?_; refine jnt ?_; refine jc_seq ?_; refine jsr ?_; refine jz ?_; refine jnt ?_; refine jc_block ?_; refine jc_loop (fun (i : Nat) => [(5, .slice (some ⟨pa.1, 0, none⟩) 4 pa.2), (6, .slice (some ⟨pb.1, 0, none⟩) 4 pb.2), (7, .slice (some ⟨bo, 0, none⟩) 9 9), (8, .int .i64 (i : Nat))]) (fun (i : Nat) => fun w' => i ≤ 4 ∧ Hp w [] [.row (some ⟨bo, 0, none⟩) (9) (9) 30 1 ((outS a b (4 * i)).map (.int .u64)), .row (some ⟨pb.1, 0, none⟩) (4) (pb.2) 30 1 ((dgtL b 4).map (.int .u64)), .row (some ⟨pa.1, 0, none⟩) (4) (pa.2) 30 1 ((dgtL a 4).map (.int .u64))] w') (fun (i : Nat) => 4 - i) 0 ?_ ?_ ?_
   ·exact ⟨rfl, rfl, rfl, rfl, trivial⟩
   ·exact fun _ h => ⟨by omega, (h.part (F := [.row (some ⟨bo, 0, none⟩) 9 9 30 1 _, .row (some ⟨pb.1, 0, none⟩) (4) (pb.2) 30 1 ((dgtL b 4).map (.int .u64)), .row (some ⟨pa.1, 0, none⟩) (4) (pa.2) 30 1 ((dgtL a 4).map (.int .u64))]) (.cons (by first | exact del0 | exact del1 | exact del2) (.cons (by first | exact del0 | exact del1) (.cons del0 .nil)))).cast (by rw [toList_madeCells_one]; rfl)⟩
   ·intro i
    refine jc_and (fun hi => ?_); refine jc_seq ?_; refine jsr ?_; refine jz ?_; refine jy (y_lss rfl rfl) ?_; refine jl_prop (fun h18 => ?_) (fun h18 => ?_)
    ·first | (exfalso; omega) | (
      refine jnt ?_; refine jc_true rfl ?_; refine jc_skip ?_; refine jq_then ?_; refine jc_seq ?_; refine jc_block ?_; refine jsr ?_; refine jz ?_; refine jnt ?_; refine jc_block ?_; refine jc_loop (fun (k : Nat) => [(5, .slice (some ⟨pa.1, 0, none⟩) 4 pa.2), (6, .slice (some ⟨pb.1, 0, none⟩) 4 pb.2), (7, .slice (some ⟨bo, 0, none⟩) 9 9), (8, .int .i64 (i : Nat)), (9, .int .i64 (k : Nat))]) (fun (k : Nat) => fun w' => k ≤ 4 ∧ Hp w [] [.row (some ⟨bo, 0, none⟩) (9) (9) 30 1 ((outS a b (4 * i + k)).map (.int .u64)), .row (some ⟨pb.1, 0, none⟩) (4) (pb.2) 30 1 ((dgtL b 4).map (.int .u64)), .row (some ⟨pa.1, 0, none⟩) (4) (pa.2) 30 1 ((dgtL a 4).map (.int .u64))] w') (fun (k : Nat) => 4 - k) 0 ?_ ?_ ?_
      ·exact ⟨rfl, rfl, rfl, rfl, rfl, trivial⟩
      ·exact fun _ h => ⟨by omega, h⟩
      ·intro k
       refine jc_and (fun hk => ?_)
       have hlen := outS_length a b (4 * i + k)
       have hsm := outS_small a b (4 * i + k)
       have hd := dgt_mul a b i k
       refine jc_seq ?_; refine jsr ?_; refine jz ?_; refine jy (y_lss rfl rfl) ?_; refine jl_prop (fun h22 => ?_) (fun h22 => ?_)
       ·first | (exfalso; omega) | (
         have ds4 : (4 * i + k) / 4 = i := by omega
         have dm4 : (4 * i + k) % 4 = k := by omega
         refine jnt ?_; refine jc_true rfl ?_; refine jc_skip ?_; refine jq_then ?_; refine jc_seq ?_; refine jc_block ?_; refine jc_seq ?_; refine jc_draw (by kernel_rfl) (fun _ h => h.drew) ?_; (iterate 2 refine juz ?_); refine juy (y_indexAddr_slice (off := i) rfl rfl (by omega) (by omega) (by omega)) ?_; refine juy (y_load_row rfl mem2 (map_get _ _ _ (by rw [dgtL_length]; omega))) ?_; refine ju_as (u := .int .u64 (dgt a i)) (congrArg _ (dgtL_at a 4 i (by omega))) ?_; (iterate 2 refine juz ?_); refine juy (y_indexAddr_slice (off := k) rfl rfl (by omega) (by omega) (by omega)) ?_; refine juy (y_load_row rfl mem1 (map_get _ _ _ (by rw [dgtL_length]; omega))) ?_; refine ju_as (u := .int .u64 (dgt b k)) (congrArg _ (dgtL_at b 4 k (by omega))) ?_; refine juy (y_mul_fits rfl rfl (by simp only [fits]; omega)) ?_; refine juz ?_; refine ju_nil ?_; refine jq_then ?_; refine jsr ?_; (iterate 3 refine jz ?_); refine jy (yaf rfl rfl) ?_; (iterate 3 refine jz ?_); refine jy (yaf rfl rfl) ?_; refine jy (y_indexAddr_slice (off := i + k) rfl rfl (by omega) (by omega) (by omega)) ?_; refine jy (y_load_row rfl mem0 (map_get _ _ _ (by omega))) ?_; refine jz ?_; refine jy (y_rem rfl rfl (by omega) (by omega)) ?_; refine jy (y_add_fits rfl rfl (by have := hsm (i + k); simp only [fits]; omega)) ?_; refine jy (y_indexAddr_slice (off := i + k) rfl rfl (by omega) (by omega) (by omega)) ?_; refine jl_w rfl rfl (w_store_row rfl rfl rfl (by rw [List.length_map]; omega) rep0) ?_; refine jnt ?_; refine jc_world (fun _ h => h.cast (H' := [.row (some ⟨bo, 0, none⟩) (9) (9) 30 1 (((outS a b (4 * i + k)).set (i + k) ((outS a b (4 * i + k)).getD (i + k) 0 + dgt a i * dgt b k % 65536)).map (.int .u64)), .row (some ⟨pb.1, 0, none⟩) (4) (pb.2) 30 1 ((dgtL b 4).map (.int .u64)), .row (some ⟨pa.1, 0, none⟩) (4) (pa.2) 30 1 ((dgtL a 4).map (.int .u64))]) (by rw [map_set])) ?_; refine jc_region ?_; (iterate 3 refine jz ?_); (iterate 2 refine jy (yaf rfl rfl) ?_); (iterate 3 refine jz ?_); (iterate 2 refine jy (yaf rfl rfl) ?_); refine jy (y_indexAddr_slice (off := i + k + 1) rfl rfl (by omega) (by omega) (by omega)) ?_; refine jy (y_load_row rfl mem0 (map_get _ _ _ (by rw [List.length_set]; omega))) ?_; refine jl_as (congrArg _ (getD_set_ne' _ _ _ _ (by omega))) ?_; refine jz ?_; refine jy (y_quo rfl rfl (by omega) (by omega) (by simp only [fits]; omega)) ?_; refine jy (y_add_fits rfl rfl (by have := hsm (i + k + 1); simp only [fits]; omega)) ?_; refine jy (y_indexAddr_slice (off := i + k + 1) rfl rfl (by omega) (by omega) (by omega)) ?_
         refine jl_w rfl rfl (w_store_row rfl rfl rfl (by rw [List.length_map, List.length_set]; omega) rep0) ?_; refine jl_nil ?_; refine jq_block ?_; refine jq_then ?_; refine jc_region ?_; refine jz ?_; refine jy (yaf rfl rfl) ?_; refine jz ?_; refine jl_nil ?_; refine jq_round (i := k) (k + 1) ?_ ?_ ?_
         ·omega
         ·exact ⟨rfl, rfl, rfl, rfl, lk_int rfl (by omega), trivial⟩
         ·exact fun _ h => ⟨by omega, h.cast (by rw [map_set, ← Nat.add_assoc, outS, ds4, dm4]; rfl)⟩
         )
       ·first | (exfalso; omega) | (
         refine jnt ?_; refine jc_false rfl ?_; refine jc_exit ?_; (iterate 2 refine jq_then_exit ?_); refine jq_hit ?_; refine jq_block ?_; refine jq_then ?_; refine jc_region ?_; refine jz ?_; refine jy (yaf rfl rfl) ?_; refine jz ?_; refine jl_nil ?_; refine jq_round (i := i) (i + 1) ?_ ?_ ?_
         ·omega
         ·exact ⟨rfl, rfl, rfl, lk_int rfl (by omega), trivial⟩
         ·exact fun _ h => ⟨by omega, h.cast (by rw [show k = 4 by omega, Nat.mul_succ])⟩
         )
      )
    ·first | (exfalso; omega) | (
      refine jnt ?_; refine jc_false rfl ?_; refine jc_exit ?_; (iterate 2 refine jq_then_exit ?_); refine jq_hit ?_; refine jq_then ?_; refine jc_seq ?_; refine jsr ?_; refine jz ?_; refine jnt ?_; refine jc_block ?_; refine jc_loop (fun (q : Nat) => [(5, .slice (some ⟨pa.1, 0, none⟩) 4 pa.2), (6, .slice (some ⟨pb.1, 0, none⟩) 4 pb.2), (7, .slice (some ⟨bo, 0, none⟩) 9 9), (11, .int .i64 (q : Nat))]) (fun (q : Nat) => fun w' => q ≤ 8 ∧ Hp w [] [.row (some ⟨bo, 0, none⟩) (9) (9) 30 1 ((carS a b q).map (.int .u64)), .row (some ⟨pb.1, 0, none⟩) (4) (pb.2) 30 1 ((dgtL b 4).map (.int .u64)), .row (some ⟨pa.1, 0, none⟩) (4) (pa.2) 30 1 ((dgtL a 4).map (.int .u64))] w') (fun (q : Nat) => 8 - q) 0 ?_ ?_ ?_
      ·exact ⟨rfl, rfl, rfl, rfl, trivial⟩
      ·exact fun _ h => ⟨by omega, h.cast (by rw [show i = 4 by omega]; rfl)⟩
      ·intro q
       refine jc_and (fun hq => ?_)
       have hlq := carS_length a b q
       have hcs := carS_small a b q hq
       have hcs0 := hcs q
       have hcs1 := hcs (q + 1)
       refine jc_seq ?_; refine jsr ?_; refine jz ?_; refine jy (y_lss rfl rfl) ?_; refine jl_prop (fun h65 => ?_) (fun h65 => ?_)
       ·first | (exfalso; omega) | (
         refine jnt ?_; refine jc_true rfl ?_; refine jc_skip ?_; refine jq_then ?_; refine jc_seq ?_; refine jc_block ?_; refine jc_seq ?_; refine jc_tail 15 (by kernel_rfl) (fun _ h => h.drew) ?_
         simp only [List.take_succ_cons, List.take_zero, List.drop_succ_cons, List.drop_zero]
         (iterate 2 refine jtz ?_); refine jty (yaf rfl rfl) ?_; (iterate 2 refine jtz ?_); refine jty (yaf rfl rfl) ?_; refine jty (y_indexAddr_slice (off := q + 1) rfl rfl (by omega) (by omega) (by omega)) ?_; refine jty (y_load_row rfl mem0 (map_get _ _ _ (by omega))) ?_; (iterate 2 refine jtz ?_); refine jty (y_indexAddr_slice (off := q) rfl rfl (by omega) (by omega) (by omega)) ?_; refine jty (y_load_row rfl mem0 (map_get _ _ _ (by omega))) ?_; refine jty (y_quo rfl rfl (by omega) (by omega) (by simp only [fits]; omega)) ?_; refine jty (yaf rfl rfl) ?_; refine jty (y_indexAddr_slice (off := q + 1) rfl rfl (by omega) (by omega) (by omega)) ?_; refine jt_nil ?_; refine jl_w rfl rfl (w_store_row rfl rfl rfl (by rw [List.length_map]; omega) rep0) ?_; refine jnt ?_; refine jc_world (fun _ h => h.cast (H' := [.row (some ⟨bo, 0, none⟩) (9) (9) 30 1 (((carS a b q).set (q + 1) ((carS a b q).getD (q + 1) 0 + (carS a b q).getD q 0 / 65536)).map (.int .u64)), .row (some ⟨pb.1, 0, none⟩) (4) (pb.2) 30 1 ((dgtL b 4).map (.int .u64)), .row (some ⟨pa.1, 0, none⟩) (4) (pa.2) 30 1 ((dgtL a 4).map (.int .u64))]) (by rw [map_set])) ?_; refine jc_region ?_; (iterate 4 refine jz ?_); refine jy (y_indexAddr_slice (off := q) rfl rfl (by omega) (by omega) (by omega)) ?_; refine jy (y_load_row rfl mem0 (map_get _ _ _ (by rw [List.length_set]; omega))) ?_; refine jl_as (congrArg _ (getD_set_ne' _ _ _ _ (by omega))) ?_; refine jy (y_rem rfl rfl (by omega) (by omega)) ?_; refine jy (y_indexAddr_slice (off := q) rfl rfl (by omega) (by omega) (by omega)) ?_; refine jl_w rfl rfl (w_store_row rfl rfl rfl (by rw [List.length_map, List.length_set]; omega) rep0) ?_; refine jl_nil ?_; refine jq_block ?_; refine jq_then ?_; refine jc_region ?_; refine jz ?_; refine jy (yaf rfl rfl) ?_; refine jz ?_; refine jl_nil ?_; refine jq_round (i := q) (q + 1) ?_ ?_ ?_
         ·omega
         ·exact ⟨rfl, rfl, rfl, lk_int rfl (by omega), trivial⟩
         ·exact fun _ h => ⟨by omega, h.cast (by rw [map_set]; rfl)⟩
         )
       ·first | (exfalso; omega) | (
         refine jnt ?_; refine jc_false rfl ?_; refine jc_exit ?_; (iterate 2 refine jq_then_exit ?_); refine jq_hit ?_; refine jq_then ?_; refine jc_seq ?_
         have hq8 : q = 8 := by omega
         subst hq8
         refine jc_region ?_; refine jz ?_; refine jy (y_part_hi rfl rfl (by decide) (by decide)) ?_; refine jz ?_; refine jnt ?_; refine jc_ret ?_; refine jq_ret1 rfl rfl ?_; exact fun w' hw => ⟨bo, rfl, (hw.part (F := [.row (some ⟨bo, 0, none⟩) (9) (9) 30 1 ((carS a b 8).map (.int .u64))]) (.cons del0 .nil)).fresh⟩
         )
      )
  ·skip
   refine jf_m (by intros; rename_i h; first | exact h | exact h.pop | exact h.pop.pop | exact h.pop.pop.pop | exact h.pop.pop.pop.pop | exact h.pop.pop.pop.pop.pop | exact h.pop.pop.pop.pop.pop.pop | exact h.part .nil) rfl rfl (by decide) rfl (m_make rfl rfl (by decide) (by decide)) (fun bo => ?_); refine jf_fcall (by intros; rename_i h; first | exact h | exact h.pop | exact h.pop.pop | exact h.pop.pop.pop | exact h.pop.pop.pop.pop | exact h.pop.pop.pop.pop.pop | exact h.pop.pop.pop.pop.pop.pop | exact h.part .nil) rfl rfl (by decide) rfl (goes_func rfl) (fun w1 hw1 => rdig_any _ w1 (by simp only [fits] at *; omega)) (fun pb => ?_); (iterate 2 refine jf_take rfl rfl (by decide) rfl (y_assign rfl) ?_); refine jf_nil ?_; refine jz ?_; refine jnt ?_; refine jc_seq ?_; refine jsr ?_; refine jz ?_; refine jnt ?_; refine jc_block ?_; refine jc_loop (fun (i : Nat) => [(5, .slice (some ⟨pa.1, 0, none⟩) 4 pa.2), (6, .slice (some ⟨pb.1, 0, none⟩) 4 pb.2), (7, .slice (some ⟨bo, 0, none⟩) 9 9), (8, .int .i64 (i : Nat))]) (fun (i : Nat) => fun w' => i ≤ 4 ∧ Hp w [] [.row (some ⟨bo, 0, none⟩) (9) (9) 30 1 ((outS a b (4 * i)).map (.int .u64)), .row (some ⟨pb.1, 0, none⟩) (4) (pb.2) 30 1 ((dgtL b 4).map (.int .u64)), .row (some ⟨pa.1, 0, none⟩) (4) (pa.2) 30 1 ((dgtL a 4).map (.int .u64))] w') (fun (i : Nat) => 4 - i) 0 ?_ ?_ ?_
   ·exact ⟨rfl, rfl, rfl, rfl, trivial⟩
   ·exact fun _ h => ⟨by omega, (h.part (F := [.row (some ⟨bo, 0, none⟩) 9 9 30 1 _, .row (some ⟨pb.1, 0, none⟩) (4) (pb.2) 30 1 ((dgtL b 4).map (.int .u64)), .row (some ⟨pa.1, 0, none⟩) (4) (pa.2) 30 1 ((dgtL a 4).map (.int .u64))]) (.cons (by first | exact del0 | exact del1 | exact del2) (.cons (by first | exact del0 | exact del1) (.cons del0 .nil)))).cast (by rw [toList_madeCells_one]; rfl)⟩
   ·intro i
    refine jc_and (fun hi => ?_); refine jc_seq ?_; refine jsr ?_; refine jz ?_; refine jy (y_lss rfl rfl) ?_; refine jl_prop (fun h18 => ?_) (fun h18 => ?_)
    ·first | (exfalso; omega) | (
      refine jnt ?_; refine jc_true rfl ?_; refine jc_skip ?_; refine jq_then ?_; refine jc_seq ?_; refine jc_block ?_; refine jsr ?_; refine jz ?_; refine jnt ?_; refine jc_block ?_; refine jc_loop (fun (k : Nat) => [(5, .slice (some ⟨pa.1, 0, none⟩) 4 pa.2), (6, .slice (some ⟨pb.1, 0, none⟩) 4 pb.2), (7, .slice (some ⟨bo, 0, none⟩) 9 9), (8, .int .i64 (i : Nat)), (9, .int .i64 (k : Nat))]) (fun (k : Nat) => fun w' => k ≤ 4 ∧ Hp w [] [.row (some ⟨bo, 0, none⟩) (9) (9) 30 1 ((outS a b (4 * i + k)).map (.int .u64)), .row (some ⟨pb.1, 0, none⟩) (4) (pb.2) 30 1 ((dgtL b 4).map (.int .u64)), .row (some ⟨pa.1, 0, none⟩) (4) (pa.2) 30 1 ((dgtL a 4).map (.int .u64))] w') (fun (k : Nat) => 4 - k) 0 ?_ ?_ ?_
      ·exact ⟨rfl, rfl, rfl, rfl, rfl, trivial⟩
      ·exact fun _ h => ⟨by omega, h⟩
      ·intro k
       refine jc_and (fun hk => ?_)
       have hlen := outS_length a b (4 * i + k)
       have hsm := outS_small a b (4 * i + k)
       have hd := dgt_mul a b i k
       refine jc_seq ?_; refine jsr ?_; refine jz ?_; refine jy (y_lss rfl rfl) ?_; refine jl_prop (fun h22 => ?_) (fun h22 => ?_)
       ·first | (exfalso; omega) | (
         have ds4 : (4 * i + k) / 4 = i := by omega
         have dm4 : (4 * i + k) % 4 = k := by omega
         refine jnt ?_; refine jc_true rfl ?_; refine jc_skip ?_; refine jq_then ?_; refine jc_seq ?_; refine jc_block ?_; refine jc_seq ?_; refine jc_draw (by kernel_rfl) (fun _ h => h.drew) ?_; (iterate 2 refine juz ?_); refine juy (y_indexAddr_slice (off := i) rfl rfl (by omega) (by omega) (by omega)) ?_; refine juy (y_load_row rfl mem2 (map_get _ _ _ (by rw [dgtL_length]; omega))) ?_; refine ju_as (u := .int .u64 (dgt a i)) (congrArg _ (dgtL_at a 4 i (by omega))) ?_; (iterate 2 refine juz ?_); refine juy (y_indexAddr_slice (off := k) rfl rfl (by omega) (by omega) (by omega)) ?_; refine juy (y_load_row rfl mem1 (map_get _ _ _ (by rw [dgtL_length]; omega))) ?_; refine ju_as (u := .int .u64 (dgt b k)) (congrArg _ (dgtL_at b 4 k (by omega))) ?_; refine juy (y_mul_fits rfl rfl (by simp only [fits]; omega)) ?_; refine juz ?_; refine ju_nil ?_; refine jq_then ?_; refine jsr ?_; (iterate 3 refine jz ?_); refine jy (yaf rfl rfl) ?_; (iterate 3 refine jz ?_); refine jy (yaf rfl rfl) ?_; refine jy (y_indexAddr_slice (off := i + k) rfl rfl (by omega) (by omega) (by omega)) ?_; refine jy (y_load_row rfl mem0 (map_get _ _ _ (by omega))) ?_; refine jz ?_; refine jy (y_rem rfl rfl (by omega) (by omega)) ?_; refine jy (y_add_fits rfl rfl (by have := hsm (i + k); simp only [fits]; omega)) ?_; refine jy (y_indexAddr_slice (off := i + k) rfl rfl (by omega) (by omega) (by omega)) ?_; refine jl_w rfl rfl (w_store_row rfl rfl rfl (by rw [List.length_map]; omega) rep0) ?_; refine jnt ?_; refine jc_world (fun _ h => h.cast (H' := [.row (some ⟨bo, 0, none⟩) (9) (9) 30 1 (((outS a b (4 * i + k)).set (i + k) ((outS a b (4 * i + k)).getD (i + k) 0 + dgt a i * dgt b k % 65536)).map (.int .u64)), .row (some ⟨pb.1, 0, none⟩) (4) (pb.2) 30 1 ((dgtL b 4).map (.int .u64)), .row (some ⟨pa.1, 0, none⟩) (4) (pa.2) 30 1 ((dgtL a 4).map (.int .u64))]) (by rw [map_set])) ?_; refine jc_region ?_; (iterate 3 refine jz ?_); (iterate 2 refine jy (yaf rfl rfl) ?_); (iterate 3 refine jz ?_); (iterate 2 refine jy (yaf rfl rfl) ?_); refine jy (y_indexAddr_slice (off := i + k + 1) rfl rfl (by omega) (by omega) (by omega)) ?_; refine jy (y_load_row rfl mem0 (map_get _ _ _ (by rw [List.length_set]; omega))) ?_; refine jl_as (congrArg _ (getD_set_ne' _ _ _ _ (by omega))) ?_; refine jz ?_; refine jy (y_quo rfl rfl (by omega) (by omega) (by simp only [fits]; omega)) ?_; refine jy (y_add_fits rfl rfl (by have := hsm (i + k + 1); simp only [fits]; omega)) ?_; refine jy (y_indexAddr_slice (off := i + k + 1) rfl rfl (by omega) (by omega) (by omega)) ?_
         refine jl_w rfl rfl (w_store_row rfl rfl rfl (by rw [List.length_map, List.length_set]; omega) rep0) ?_; refine jl_nil ?_; refine jq_block ?_; refine jq_then ?_; refine jc_region ?_; refine jz ?_; refine jy (yaf rfl rfl) ?_; refine jz ?_; refine jl_nil ?_; refine jq_round (i := k) (k + 1) ?_ ?_ ?_
         ·omega
         ·exact ⟨rfl, rfl, rfl, rfl, lk_int rfl (by omega), trivial⟩
         ·exact fun _ h => ⟨by omega, h.cast (by rw [map_set, ← Nat.add_assoc, outS, ds4, dm4]; rfl)⟩
         )
       ·first | (exfalso; omega) | (
         refine jnt ?_; refine jc_false rfl ?_; refine jc_exit ?_; (iterate 2 refine jq_then_exit ?_); refine jq_hit ?_; refine jq_block ?_; refine jq_then ?_; refine jc_region ?_; refine jz ?_; refine jy (yaf rfl rfl) ?_; refine jz ?_; refine jl_nil ?_; refine jq_round (i := i) (i + 1) ?_ ?_ ?_
         ·omega
         ·exact ⟨rfl, rfl, rfl, lk_int rfl (by omega), trivial⟩
         ·exact fun _ h => ⟨by omega, h.cast (by rw [show k = 4 by omega, Nat.mul_succ])⟩
         )
      )
    ·first | (exfalso; omega) | (
      refine jnt ?_; refine jc_false rfl ?_; refine jc_exit ?_; (iterate 2 refine jq_then_exit ?_); refine jq_hit ?_; refine jq_then ?_; refine jc_seq ?_; refine jsr ?_; refine jz ?_; refine jnt ?_; refine jc_block ?_; refine jc_loop (fun (q : Nat) => [(5, .slice (some ⟨pa.1, 0, none⟩) 4 pa.2), (6, .slice (some ⟨pb.1, 0, none⟩) 4 pb.2), (7, .slice (some ⟨bo, 0, none⟩) 9 9), (11, .int .i64 (q : Nat))]) (fun (q : Nat) => fun w' => q ≤ 8 ∧ Hp w [] [.row (some ⟨bo, 0, none⟩) (9) (9) 30 1 ((carS a b q).map (.int .u64)), .row (some ⟨pb.1, 0, none⟩) (4) (pb.2) 30 1 ((dgtL b 4).map (.int .u64)), .row (some ⟨pa.1, 0, none⟩) (4) (pa.2) 30 1 ((dgtL a 4).map (.int .u64))] w') (fun (q : Nat) => 8 - q) 0 ?_ ?_ ?_
      ·exact ⟨rfl, rfl, rfl, rfl, trivial⟩
      ·exact fun _ h => ⟨by omega, h.cast (by rw [show i = 4 by omega]; rfl)⟩
      ·intro q
       refine jc_and (fun hq => ?_)
       have hlq := carS_length a b q
       have hcs := carS_small a b q hq
       have hcs0 := hcs q
       have hcs1 := hcs (q + 1)
       refine jc_seq ?_; refine jsr ?_; refine jz ?_; refine jy (y_lss rfl rfl) ?_; refine jl_prop (fun h65 => ?_) (fun h65 => ?_)
       ·first | (exfalso; omega) | (
         refine jnt ?_; refine jc_true rfl ?_; refine jc_skip ?_; refine jq_then ?_; refine jc_seq ?_; refine jc_block ?_; refine jc_seq ?_; refine jc_tail 15 (by kernel_rfl) (fun _ h => h.drew) ?_
         simp only [List.take_succ_cons, List.take_zero, List.drop_succ_cons, List.drop_zero]
         (iterate 2 refine jtz ?_); refine jty (yaf rfl rfl) ?_; (iterate 2 refine jtz ?_); refine jty (yaf rfl rfl) ?_; refine jty (y_indexAddr_slice (off := q + 1) rfl rfl (by omega) (by omega) (by omega)) ?_; refine jty (y_load_row rfl mem0 (map_get _ _ _ (by omega))) ?_; (iterate 2 refine jtz ?_); refine jty (y_indexAddr_slice (off := q) rfl rfl (by omega) (by omega) (by omega)) ?_; refine jty (y_load_row rfl mem0 (map_get _ _ _ (by omega))) ?_; refine jty (y_quo rfl rfl (by omega) (by omega) (by simp only [fits]; omega)) ?_; refine jty (yaf rfl rfl) ?_; refine jty (y_indexAddr_slice (off := q + 1) rfl rfl (by omega) (by omega) (by omega)) ?_; refine jt_nil ?_; refine jl_w rfl rfl (w_store_row rfl rfl rfl (by rw [List.length_map]; omega) rep0) ?_; refine jnt ?_; refine jc_world (fun _ h => h.cast (H' := [.row (some ⟨bo, 0, none⟩) (9) (9) 30 1 (((carS a b q).set (q + 1) ((carS a b q).getD (q + 1) 0 + (carS a b q).getD q 0 / 65536)).map (.int .u64)), .row (some ⟨pb.1, 0, none⟩) (4) (pb.2) 30 1 ((dgtL b 4).map (.int .u64)), .row (some ⟨pa.1, 0, none⟩) (4) (pa.2) 30 1 ((dgtL a 4).map (.int .u64))]) (by rw [map_set])) ?_; refine jc_region ?_; (iterate 4 refine jz ?_); refine jy (y_indexAddr_slice (off := q) rfl rfl (by omega) (by omega) (by omega)) ?_; refine jy (y_load_row rfl mem0 (map_get _ _ _ (by rw [List.length_set]; omega))) ?_; refine jl_as (congrArg _ (getD_set_ne' _ _ _ _ (by omega))) ?_; refine jy (y_rem rfl rfl (by omega) (by omega)) ?_; refine jy (y_indexAddr_slice (off := q) rfl rfl (by omega) (by omega) (by omega)) ?_; refine jl_w rfl rfl (w_store_row rfl rfl rfl (by rw [List.length_map, List.length_set]; omega) rep0) ?_; refine jl_nil ?_; refine jq_block ?_; refine jq_then ?_; refine jc_region ?_; refine jz ?_; refine jy (yaf rfl rfl) ?_; refine jz ?_; refine jl_nil ?_; refine jq_round (i := q) (q + 1) ?_ ?_ ?_
         ·omega
         ·exact ⟨rfl, rfl, rfl, lk_int rfl (by omega), trivial⟩
         ·exact fun _ h => ⟨by omega, h.cast (by rw [map_set]; rfl)⟩
         )
       ·first | (exfalso; omega) | (
         refine jnt ?_; refine jc_false rfl ?_; refine jc_exit ?_; (iterate 2 refine jq_then_exit ?_); refine jq_hit ?_; refine jq_then ?_; refine jc_seq ?_
         have hq8 : q = 8 := by omega
         subst hq8
         refine jc_region ?_; refine jz ?_; refine jy (y_part_hi rfl rfl (by decide) (by decide)) ?_; refine jz ?_; refine jnt ?_; refine jc_ret ?_; refine jq_ret1 rfl rfl ?_; exact fun w' hw => ⟨bo, rfl, (hw.part (F := [.row (some ⟨bo, 0, none⟩) (9) (9) 30 1 ((carS a b 8).map (.int .u64))]) (.cons del0 .nil)).fresh⟩
         )
      )
 ·skip
  refine jf_m (by intros; rename_i h; first | exact h | exact h.pop | exact h.pop.pop | exact h.pop.pop.pop | exact h.pop.pop.pop.pop | exact h.pop.pop.pop.pop.pop | exact h.pop.pop.pop.pop.pop.pop | exact h.part .nil) rfl rfl (by decide) rfl (m_make rfl rfl (by decide) (by decide)) (fun bo => ?_); refine jf_fcall (by intros; rename_i h; first | exact h | exact h.pop | exact h.pop.pop | exact h.pop.pop.pop | exact h.pop.pop.pop.pop | exact h.pop.pop.pop.pop.pop | exact h.pop.pop.pop.pop.pop.pop | exact h.part .nil) rfl rfl (by decide) rfl (goes_func rfl) (fun w1 hw1 => rdig_any _ w1 (by simp only [fits] at *; omega)) (fun pa => ?_); refine jf_fcall (by intros; rename_i h; first | exact h | exact h.pop | exact h.pop.pop | exact h.pop.pop.pop | exact h.pop.pop.pop.pop | exact h.pop.pop.pop.pop.pop | exact h.pop.pop.pop.pop.pop.pop | exact h.part .nil) rfl rfl (by decide) rfl (goes_func rfl) (fun w1 hw1 => rdig_any _ w1 (by simp only [fits] at *; omega)) (fun pb => ?_); (iterate 2 refine jf_take rfl rfl (by decide) rfl (y_assign rfl) ?_); refine jf_nil ?_; refine jz ?_; refine jnt ?_; refine jc_seq ?_; refine jsr ?_; refine jz ?_; refine jnt ?_; refine jc_block ?_; refine jc_loop (fun (i : Nat) => [(5, .slice (some ⟨pa.1, 0, none⟩) 4 pa.2), (6, .slice (some ⟨pb.1, 0, none⟩) 4 pb.2), (7, .slice (some ⟨bo, 0, none⟩) 9 9), (8, .int .i64 (i : Nat))]) (fun (i : Nat) => fun w' => i ≤ 4 ∧ Hp w [] [.row (some ⟨bo, 0, none⟩) (9) (9) 30 1 ((outS a b (4 * i)).map (.int .u64)), .row (some ⟨pb.1, 0, none⟩) (4) (pb.2) 30 1 ((dgtL b 4).map (.int .u64)), .row (some ⟨pa.1, 0, none⟩) (4) (pa.2) 30 1 ((dgtL a 4).map (.int .u64))] w') (fun (i : Nat) => 4 - i) 0 ?_ ?_ ?_
  ·exact ⟨rfl, rfl, rfl, rfl, trivial⟩
  ·exact fun _ h => ⟨by omega, (h.part (F := [.row (some ⟨bo, 0, none⟩) 9 9 30 1 _, .row (some ⟨pb.1, 0, none⟩) (4) (pb.2) 30 1 ((dgtL b 4).map (.int .u64)), .row (some ⟨pa.1, 0, none⟩) (4) (pa.2) 30 1 ((dgtL a 4).map (.int .u64))]) (.cons (by first | exact del0 | exact del1 | exact del2) (.cons (by first | exact del0 | exact del1) (.cons del0 .nil)))).cast (by rw [toList_madeCells_one]; rfl)⟩
  ·intro i
   refine jc_and (fun hi => ?_); refine jc_seq ?_; refine jsr ?_; refine jz ?_; refine jy (y_lss rfl rfl) ?_; refine jl_prop (fun h18 => ?_) (fun h18 => ?_)
   ·first | (exfalso; omega) | (
     refine jnt ?_; refine jc_true rfl ?_; refine jc_skip ?_; refine jq_then ?_; refine jc_seq ?_; refine jc_block ?_; refine jsr ?_; refine jz ?_; refine jnt ?_; refine jc_block ?_; refine jc_loop (fun (k : Nat) => [(5, .slice (some ⟨pa.1, 0, none⟩) 4 pa.2), (6, .slice (some ⟨pb.1, 0, none⟩) 4 pb.2), (7, .slice (some ⟨bo, 0, none⟩) 9 9), (8, .int .i64 (i : Nat)), (9, .int .i64 (k : Nat))]) (fun (k : Nat) => fun w' => k ≤ 4 ∧ Hp w [] [.row (some ⟨bo, 0, none⟩) (9) (9) 30 1 ((outS a b (4 * i + k)).map (.int .u64)), .row (some ⟨pb.1, 0, none⟩) (4) (pb.2) 30 1 ((dgtL b 4).map (.int .u64)), .row (some ⟨pa.1, 0, none⟩) (4) (pa.2) 30 1 ((dgtL a 4).map (.int .u64))] w') (fun (k : Nat) => 4 - k) 0 ?_ ?_ ?_
     ·exact ⟨rfl, rfl, rfl, rfl, rfl, trivial⟩
     ·exact fun _ h => ⟨by omega, h⟩
     ·intro k
      refine jc_and (fun hk => ?_)
      have hlen := outS_length a b (4 * i + k)
      have hsm := outS_small a b (4 * i + k)
      have hd := dgt_mul a b i k
      refine jc_seq ?_; refine jsr ?_; refine jz ?_; refine jy (y_lss rfl rfl) ?_; refine jl_prop (fun h22 => ?_) (fun h22 => ?_)
      ·first | (exfalso; omega) | (
        have ds4 : (4 * i + k) / 4 = i := by omega
        have dm4 : (4 * i + k) % 4 = k := by omega
        refine jnt ?_; refine jc_true rfl ?_; refine jc_skip ?_; refine jq_then ?_; refine jc_seq ?_; refine jc_block ?_; refine jc_seq ?_; refine jc_draw (by kernel_rfl) (fun _ h => h.drew) ?_; (iterate 2 refine juz ?_); refine juy (y_indexAddr_slice (off := i) rfl rfl (by omega) (by omega) (by omega)) ?_; refine juy (y_load_row rfl mem2 (map_get _ _ _ (by rw [dgtL_length]; omega))) ?_; refine ju_as (u := .int .u64 (dgt a i)) (congrArg _ (dgtL_at a 4 i (by omega))) ?_; (iterate 2 refine juz ?_); refine juy (y_indexAddr_slice (off := k) rfl rfl (by omega) (by omega) (by omega)) ?_; refine juy (y_load_row rfl mem1 (map_get _ _ _ (by rw [dgtL_length]; omega))) ?_; refine ju_as (u := .int .u64 (dgt b k)) (congrArg _ (dgtL_at b 4 k (by omega))) ?_; refine juy (y_mul_fits rfl rfl (by simp only [fits]; omega)) ?_; refine juz ?_; refine ju_nil ?_; refine jq_then ?_; refine jsr ?_; (iterate 3 refine jz ?_); refine jy (yaf rfl rfl) ?_; (iterate 3 refine jz ?_); refine jy (yaf rfl rfl) ?_; refine jy (y_indexAddr_slice (off := i + k) rfl rfl (by omega) (by omega) (by omega)) ?_; refine jy (y_load_row rfl mem0 (map_get _ _ _ (by omega))) ?_; refine jz ?_; refine jy (y_rem rfl rfl (by omega) (by omega)) ?_; refine jy (y_add_fits rfl rfl (by have := hsm (i + k); simp only [fits]; omega)) ?_; refine jy (y_indexAddr_slice (off := i + k) rfl rfl (by omega) (by omega) (by omega)) ?_; refine jl_w rfl rfl (w_store_row rfl rfl rfl (by rw [List.length_map]; omega) rep0) ?_; refine jnt ?_; refine jc_world (fun _ h => h.cast (H' := [.row (some ⟨bo, 0, none⟩) (9) (9) 30 1 (((outS a b (4 * i + k)).set (i + k) ((outS a b (4 * i + k)).getD (i + k) 0 + dgt a i * dgt b k % 65536)).map (.int .u64)), .row (some ⟨pb.1, 0, none⟩) (4) (pb.2) 30 1 ((dgtL b 4).map (.int .u64)), .row (some ⟨pa.1, 0, none⟩) (4) (pa.2) 30 1 ((dgtL a 4).map (.int .u64))]) (by rw [map_set])) ?_; refine jc_region ?_; (iterate 3 refine jz ?_); (iterate 2 refine jy (yaf rfl rfl) ?_); (iterate 3 refine jz ?_); (iterate 2 refine jy (yaf rfl rfl) ?_); refine jy (y_indexAddr_slice (off := i + k + 1) rfl rfl (by omega) (by omega) (by omega)) ?_; refine jy (y_load_row rfl mem0 (map_get _ _ _ (by rw [List.length_set]; omega))) ?_; refine jl_as (congrArg _ (getD_set_ne' _ _ _ _ (by omega))) ?_; refine jz ?_; refine jy (y_quo rfl rfl (by omega) (by omega) (by simp only [fits]; omega)) ?_; refine jy (y_add_fits rfl rfl (by have := hsm (i + k + 1); simp only [fits]; omega)) ?_; refine jy (y_indexAddr_slice (off := i + k + 1) rfl rfl (by omega) (by omega) (by omega)) ?_
        refine jl_w rfl rfl (w_store_row rfl rfl rfl (by rw [List.length_map, List.length_set]; omega) rep0) ?_; refine jl_nil ?_; refine jq_block ?_; refine jq_then ?_; refine jc_region ?_; refine jz ?_; refine jy (yaf rfl rfl) ?_; refine jz ?_; refine jl_nil ?_; refine jq_round (i := k) (k + 1) ?_ ?_ ?_
        ·omega
        ·exact ⟨rfl, rfl, rfl, rfl, lk_int rfl (by omega), trivial⟩
        ·exact fun _ h => ⟨by omega, h.cast (by rw [map_set, ← Nat.add_assoc, outS, ds4, dm4]; rfl)⟩
        )
      ·first | (exfalso; omega) | (
        refine jnt ?_; refine jc_false rfl ?_; refine jc_exit ?_; (iterate 2 refine jq_then_exit ?_); refine jq_hit ?_; refine jq_block ?_; refine jq_then ?_; refine jc_region ?_; refine jz ?_; refine jy (yaf rfl rfl) ?_; refine jz ?_; refine jl_nil ?_; refine jq_round (i := i) (i + 1) ?_ ?_ ?_
        ·omega
        ·exact ⟨rfl, rfl, rfl, lk_int rfl (by omega), trivial⟩
        ·exact fun _ h => ⟨by omega, h.cast (by rw [show k = 4 by omega, Nat.mul_succ])⟩
        )
     )
   ·first | (exfalso; omega) | (
     refine jnt ?_; refine jc_false rfl ?_; refine jc_exit ?_; (iterate 2 refine jq_then_exit ?_); refine jq_hit ?_; refine jq_then ?_; refine jc_seq ?_; refine jsr ?_; refine jz ?_; refine jnt ?_; refine jc_block ?_; refine jc_loop (fun (q : Nat) => [(5, .slice (some ⟨pa.1, 0, none⟩) 4 pa.2), (6, .slice (some ⟨pb.1, 0, none⟩) 4 pb.2), (7, .slice (some ⟨bo, 0, none⟩) 9 9), (11, .int .i64 (q : Nat))]) (fun (q : Nat) => fun w' => q ≤ 8 ∧ Hp w [] [.row (some ⟨bo, 0, none⟩) (9) (9) 30 1 ((carS a b q).map (.int .u64)), .row (some ⟨pb.1, 0, none⟩) (4) (pb.2) 30 1 ((dgtL b 4).map (.int .u64)), .row (some ⟨pa.1, 0, none⟩) (4) (pa.2) 30 1 ((dgtL a 4).map (.int .u64))] w') (fun (q : Nat) => 8 - q) 0 ?_ ?_ ?_
     ·exact ⟨rfl, rfl, rfl, rfl, trivial⟩
     ·exact fun _ h => ⟨by omega, h.cast (by rw [show i = 4 by omega]; rfl)⟩
     ·intro q
      refine jc_and (fun hq => ?_)
      have hlq := carS_length a b q
      have hcs := carS_small a b q hq
      have hcs0 := hcs q
      have hcs1 := hcs (q + 1)
      refine jc_seq ?_; refine jsr ?_; refine jz ?_; refine jy (y_lss rfl rfl) ?_; refine jl_prop (fun h65 => ?_) (fun h65 => ?_)
      ·first | (exfalso; omega) | (
        refine jnt ?_; refine jc_true rfl ?_; refine jc_skip ?_; refine jq_then ?_; refine jc_seq ?_; refine jc_block ?_; refine jc_seq ?_; refine jc_tail 15 (by kernel_rfl) (fun _ h => h.drew) ?_
        simp only [List.take_succ_cons, List.take_zero, List.drop_succ_cons, List.drop_zero]
        (iterate 2 refine jtz ?_); refine jty (yaf rfl rfl) ?_; (iterate 2 refine jtz ?_); refine jty (yaf rfl rfl) ?_; refine jty (y_indexAddr_slice (off := q + 1) rfl rfl (by omega) (by omega) (by omega)) ?_; refine jty (y_load_row rfl mem0 (map_get _ _ _ (by omega))) ?_; (iterate 2 refine jtz ?_); refine jty (y_indexAddr_slice (off := q) rfl rfl (by omega) (by omega) (by omega)) ?_; refine jty (y_load_row rfl mem0 (map_get _ _ _ (by omega))) ?_; refine jty (y_quo rfl rfl (by omega) (by omega) (by simp only [fits]; omega)) ?_; refine jty (yaf rfl rfl) ?_; refine jty (y_indexAddr_slice (off := q + 1) rfl rfl (by omega) (by omega) (by omega)) ?_; refine jt_nil ?_; refine jl_w rfl rfl (w_store_row rfl rfl rfl (by rw [List.length_map]; omega) rep0) ?_; refine jnt ?_; refine jc_world (fun _ h => h.cast (H' := [.row (some ⟨bo, 0, none⟩) (9) (9) 30 1 (((carS a b q).set (q + 1) ((carS a b q).getD (q + 1) 0 + (carS a b q).getD q 0 / 65536)).map (.int .u64)), .row (some ⟨pb.1, 0, none⟩) (4) (pb.2) 30 1 ((dgtL b 4).map (.int .u64)), .row (some ⟨pa.1, 0, none⟩) (4) (pa.2) 30 1 ((dgtL a 4).map (.int .u64))]) (by rw [map_set])) ?_; refine jc_region ?_; (iterate 4 refine jz ?_); refine jy (y_indexAddr_slice (off := q) rfl rfl (by omega) (by omega) (by omega)) ?_; refine jy (y_load_row rfl mem0 (map_get _ _ _ (by rw [List.length_set]; omega))) ?_; refine jl_as (congrArg _ (getD_set_ne' _ _ _ _ (by omega))) ?_; refine jy (y_rem rfl rfl (by omega) (by omega)) ?_; refine jy (y_indexAddr_slice (off := q) rfl rfl (by omega) (by omega) (by omega)) ?_; refine jl_w rfl rfl (w_store_row rfl rfl rfl (by rw [List.length_map, List.length_set]; omega) rep0) ?_; refine jl_nil ?_; refine jq_block ?_; refine jq_then ?_; refine jc_region ?_; refine jz ?_; refine jy (yaf rfl rfl) ?_; refine jz ?_; refine jl_nil ?_; refine jq_round (i := q) (q + 1) ?_ ?_ ?_
        ·omega
        ·exact ⟨rfl, rfl, rfl, lk_int rfl (by omega), trivial⟩
        ·exact fun _ h => ⟨by omega, h.cast (by rw [map_set]; rfl)⟩
        )
      ·first | (exfalso; omega) | (
        refine jnt ?_; refine jc_false rfl ?_; refine jc_exit ?_; (iterate 2 refine jq_then_exit ?_); refine jq_hit ?_; refine jq_then ?_; refine jc_seq ?_
        have hq8 : q = 8 := by omega
        subst hq8
        refine jc_region ?_; refine jz ?_; refine jy (y_part_hi rfl rfl (by decide) (by decide)) ?_; refine jz ?_; refine jnt ?_; refine jc_ret ?_; refine jq_ret1 rfl rfl ?_; exact fun w' hw => ⟨bo, rfl, (hw.part (F := [.row (some ⟨bo, 0, none⟩) (9) (9) 30 1 ((carS a b 8).map (.int .u64))]) (.cons del0 .nil)).fresh⟩
        )
     )

theorem rtwice_any (n bt c : Int) (w : World) (hn : 0 ≤ n) (hnc : n < c) (hc : c ≤ 18446744073709551615) (hb : 0 ≤ bt) (hb2 : bt ≤ 1) :
  Calls Tryz.prog 120 #[.int .u64 n, .int .u64 bt, .int .u64 c] w fun e w' => e = .returned (.tuple #[.int .u64 (if c ≤ 2 * n + bt then 2 * n + bt - c else 2 * n + bt), .bool (decide (c ≤ 2 * n + bt))]) ∧ Ch [] w w' := by
 refine calls_of (n := 32) (E := [(0, .int .u64 n), (1, .int .u64 bt), (2, .int .u64 c)]) (W := Hp w [] []) Tryz.func120 rfl rfl (Nat.le_of_ble_eq_true rfl) rfl (Hp.nil _ _) ?_; refine jsr ?_; (iterate 2 refine jz ?_); refine jnt ?_; refine jc_seq ?_; refine jsr ?_; (iterate 3 refine jz ?_); refine jy (ysf rfl rfl) ?_; refine jy (y_geq rfl rfl) ?_; refine jl_prop (fun h12 => ?_) (fun h12 => ?_)
 ·first | (exfalso; omega) | (refine jnt ?_; refine jc_true rfl ?_; refine jsr ?_; (iterate 3 refine jz ?_); (iterate 2 refine jy (ysf rfl rfl) ?_); refine jz ?_; refine jy (yaf rfl rfl) ?_; (iterate 2 refine jz ?_); refine jnt ?_; refine jc_ret ?_; refine jq_then_ret ?_; refine jq_ret2 rfl rfl rfl ?_; exact fun _ hw => ⟨by first | (have hx : c ≤ 2 * n + bt := (by omega); rw [if_pos hx, decide_eq_true hx]; exact congrArg (fun z => Ending.returned (.tuple #[.int .u64 z, .bool true])) (by omega)) | (have hx : ¬ c ≤ 2 * n + bt := (by omega); rw [if_neg hx, decide_eq_false hx]; exact congrArg (fun z => Ending.returned (.tuple #[.int .u64 z, .bool false])) (by omega)), hw.ch⟩)
 ·first | (exfalso; omega) | (
   refine jnt ?_; refine jc_false rfl ?_; refine jc_skip ?_; refine jq_then ?_; refine jc_seq ?_; refine jsr ?_; (iterate 2 refine jz ?_); refine jy (yaf rfl rfl) ?_; refine jz ?_; refine jy (yaf rfl rfl) ?_; refine jz ?_; refine jy (y_eql rfl rfl) ?_; refine jl_prop (fun h26 => ?_) (fun h26 => ?_)
   ·first | (exfalso; omega) | (refine jnt ?_; refine jc_true rfl ?_; refine jsr ?_; (iterate 2 refine jz ?_); refine jnt ?_; refine jc_ret ?_; refine jq_then_ret ?_; refine jq_ret2 rfl rfl rfl ?_; exact fun _ hw => ⟨by first | (have hx : c ≤ 2 * n + bt := (by omega); rw [if_pos hx, decide_eq_true hx]; exact congrArg (fun z => Ending.returned (.tuple #[.int .u64 z, .bool true])) (by omega)) | (have hx : ¬ c ≤ 2 * n + bt := (by omega); rw [if_neg hx, decide_eq_false hx]; exact congrArg (fun z => Ending.returned (.tuple #[.int .u64 z, .bool false])) (by omega)), hw.ch⟩)
   ·first | (exfalso; omega) | (refine jnt ?_; refine jc_false rfl ?_; refine jc_skip ?_; refine jq_then ?_; refine jsr ?_; (iterate 2 refine jz ?_); refine jy (yaf rfl rfl) ?_; refine jz ?_; refine jy (yaf rfl rfl) ?_; (iterate 2 refine jz ?_); refine jnt ?_; refine jc_ret ?_; refine jq_ret2 rfl rfl rfl ?_; exact fun _ hw => ⟨by first | (have hx : c ≤ 2 * n + bt := (by omega); rw [if_pos hx, decide_eq_true hx]; exact congrArg (fun z => Ending.returned (.tuple #[.int .u64 z, .bool true])) (by omega)) | (have hx : ¬ c ≤ 2 * n + bt := (by omega); rw [if_neg hx, decide_eq_false hx]; exact congrArg (fun z => Ending.returned (.tuple #[.int .u64 z, .bool false])) (by omega)), hw.ch⟩)
   )

theorem rdivide_any (b' l' c' : Nat) (n c : Int) (w : World) (hl : 8 ≤ l') (hn : 0 ≤ n) (hn2 : n < 340282366920938463463374607431768211456) (hc : fits .u64 c) (hc0 : c ≠ 0) (hd : ∀ j, j < 8 → w.cell? ⟨b', j, none⟩ = some (.int .u64 (dgt n j))) :
  Calls Tryz.prog 97 #[(.slice (some ⟨b', 0, none⟩) l' c'), .int .u64 c] w fun e w' => e = .returned (.tuple #[.int .u64 (tQ n c 128 % 18446744073709551616), .int .u64 (tR n c 128), .bool (decide (18446744073709551616 ≤ tQ n c 128))]) ∧ Ch [] w w' := by
 simp only [fits] at hc
 have hz := tJ_zero n hn hn2
 refine calls_of (n := 64) (E := [(0, (.slice (some ⟨b', 0, none⟩) l' c')), (1, .int .u64 c)]) (W := Hp w [] []) Tryz.func97 rfl rfl (Nat.le_of_ble_eq_true rfl) rfl (Hp.nil _ _) ?_; refine jsr ?_; (iterate 3 refine jz ?_); refine jnt ?_; refine jsr ?_; (iterate 3 refine jz ?_); refine jnt ?_; refine jc_seq ?_; refine jsr ?_; refine jz ?_; refine jnt ?_; refine jc_block ?_; refine jc_loop (fun (j : Nat) => [(0, .slice (some ⟨b', 0, none⟩) l' c'), (1, .int .u64 c), (7, .int .u64 (tQ n c j % 18446744073709551616)), (8, .int .u64 (tR n c j)), (9, .bool (decide (18446744073709551616 ≤ tQ n c j))), (10, .int .i64 (127 - (j : Int)))]) (fun (j : Nat) => fun w' => j ≤ 128 ∧ Hp w [] [] w') (fun (j : Nat) => 128 - j) 0 ?_ ?_ ?_
 ·exact ⟨rfl, rfl, lk_int rfl (by simp [tQ, hz]), lk_int rfl (by simp [tR, hz]), lk_bool rfl (by simp [tQ, hz]), rfl, trivial⟩
 ·exact fun _ h => ⟨by omega, h⟩
 ·intro j
  refine jc_and (fun hj => ?_)
  have hr := tR_range n c (by omega) j
  have hq := tQ_nonneg n c hn (by omega) j
  have hb := bitAt_range n (127 - j)
  have hdr := dgt_range n ((127 - j) / 16)
  refine jc_seq ?_; refine jsr ?_; refine jz ?_; refine jy (y_geq rfl rfl) ?_; refine jl_prop (fun h16 => ?_) (fun h16 => ?_)
  ·first | (exfalso; omega) | (
    refine jnt ?_; refine jc_true rfl ?_; refine jc_skip ?_; refine jq_then ?_; refine jc_seq ?_; refine jc_block ?_; refine jsr ?_; (iterate 2 refine jz ?_); refine jy (y_quo rfl rfl (by omega) (by omega) (by simp only [fits]; omega)) ?_; refine jy (y_indexAddr_slice (off := (127 - j) / 16) rfl rfl (by omega) (by omega) (by omega)) ?_; refine jy (y_load_old rfl (hd ((127 - j) / 16) (by omega)) (by simp)) ?_; refine jz ?_; refine jnt ?_; refine jc_seq ?_; refine jsr ?_; refine jz ?_; refine jnt ?_; refine jc_block ?_; refine jc_loop (fun (m : Nat) => [(0, .slice (some ⟨b', 0, none⟩) l' c'), (1, .int .u64 c), (7, .int .u64 (tQ n c j % 18446744073709551616)), (8, .int .u64 (tR n c j)), (9, .bool (decide (18446744073709551616 ≤ tQ n c j))), (10, .int .i64 (127 - (j : Int))), (11, .int .u64 (dgt n ((127 - j) / 16) / 2 ^ m)), (12, .int .i64 (m : Nat))]) (fun (m : Nat) => fun w' => m ≤ (127 - j) % 16 ∧ Hp w [] [] w') (fun (m : Nat) => 16 - m) 0 ?_ ?_ ?_
    ·exact ⟨rfl, rfl, rfl, rfl, rfl, rfl, lk_int rfl (by simp), rfl, trivial⟩
    ·exact fun _ h => ⟨by omega, h⟩
    ·intro m
     refine jc_and (fun hm => ?_)
     have hdp : (0 : Int) ≤ dgt n ((127 - j) / 16) / 2 ^ m := Int.ediv_nonneg hdr.1 (Int.le_of_lt (Int.pow_pos (by decide)))
     have hdp2 : dgt n ((127 - j) / 16) / 2 ^ m ≤ dgt n ((127 - j) / 16) := Int.ediv_le_self _ hdr.1
     refine jc_seq ?_; refine jsr ?_; (iterate 2 refine jz ?_); refine jy (y_rem rfl rfl (by omega) (by omega)) ?_; refine jy (y_lss rfl rfl) ?_; refine jl_prop (fun h27 => ?_) (fun h27 => ?_)
     ·first | (exfalso; omega) | (
       refine jnt ?_; refine jc_true rfl ?_; refine jc_skip ?_; refine jq_then ?_; refine jc_seq ?_; refine jc_block ?_; refine jc_region ?_; refine jz ?_; refine jy (y_quo rfl rfl (by omega) (by omega) (by simp only [fits]; omega)) ?_; refine jl_as (congrArg _ (halves _ m)) ?_; refine jz ?_; refine jl_nil ?_; refine jq_block ?_; refine jq_then ?_; refine jc_region ?_; refine jz ?_; refine jy (yaf rfl rfl) ?_; refine jz ?_; refine jl_nil ?_; refine jq_round (i := m) (m + 1) ?_ ?_ ?_
       ·omega
       ·exact ⟨rfl, rfl, rfl, rfl, rfl, rfl, rfl, lk_int rfl (by omega), trivial⟩
       ·exact fun _ h => ⟨by omega, h⟩
       )
     ·first | (exfalso; omega) | (
       refine jnt ?_; refine jc_false rfl ?_; refine jc_exit ?_; (iterate 2 refine jq_then_exit ?_); refine jq_hit ?_; refine jq_then ?_; refine jc_seq ?_
       have hr1 := tR_range n c (by omega) (j + 1)
       refine jc_region ?_; refine jz ?_; refine jl_bool (fun h32 => ?_) (fun h32 => ?_)
       ·skip
        refine jz ?_; (iterate 4 refine jsk ?_); refine jy (y_pick_true rfl rfl) ?_; refine jz ?_; refine jnt ?_; refine jsr ?_; refine jz ?_; refine jy (y_mul_u64 rfl rfl) ?_; refine jz ?_; refine jnt ?_; refine jsr ?_; (iterate 2 refine jz ?_); refine jy (y_rem rfl rfl (by omega) (by omega)) ?_; refine jl_as (u := .int .u64 (bitAt n (127 - j))) (congrArg _ (by rw [show m = (127 - j) % 16 by omega]; exact dgt_bit n (127 - j))) ?_; refine jz ?_; refine jpc (goes_func rfl) (fun w1 hw1 => rtwice_any _ _ _ w1 (by omega) (by omega) (by omega) (by omega) (by omega)) ?_; (iterate 2 refine jz ?_); refine jl_as (u := .int .u64 (tR n c (j + 1))) (congrArg _ (tR_next n c (by omega) j (by omega))) ?_; refine jz ?_; refine jl_bool (fun h48 => ?_) (fun h48 => ?_)
        ·skip
         have hs2 := ((t_step n c (by omega) j (by omega)).1 (of_decide_eq_true h48)).1
         (iterate 2 refine jz ?_); refine jnt ?_; refine jsr ?_; (iterate 2 refine jz ?_); refine jnt ?_; refine jc_seq ?_; refine jsr ?_; refine jz ?_; refine jnt ?_; refine jc_true rfl ?_; refine jc_region ?_; refine jz ?_; refine jy (y_add_u64 rfl rfl) ?_; refine jz ?_; refine jnt ?_; refine jsr ?_; (iterate 2 refine jz ?_); refine jy (y_geq rfl rfl) ?_; refine jl_prop (fun h55 => ?_) (fun h55 => ?_)
         ·first | (exfalso; omega) | (
           refine jnt ?_; refine jc_true rfl ?_; refine jsr ?_; (iterate 2 refine jz ?_); refine jy (y_sub_u64 rfl rfl) ?_; refine jz ?_; refine jnt ?_; refine jc_region ?_; refine jz ?_; refine jy (y_add_u64 rfl rfl) ?_; refine jz ?_; refine jl_nil ?_; refine jq_block ?_; refine jq_then ?_; refine jc_region ?_; refine jz ?_; refine jy (ysf rfl rfl) ?_; refine jz ?_; refine jl_nil ?_; refine jq_round (i := j) (j + 1) ?_ ?_ ?_
           ·omega
           ·exact ⟨rfl, rfl, lk_int rfl (by omega), rfl, lk_bool rfl (by first | (have h9 := of_decide_eq_true h32; exact (decide_eq_true (by omega)).symm) | (have h9 := of_decide_eq_false h32; first | exact (decide_eq_true (by omega)).symm | exact (decide_eq_false (by omega)).symm)), lk_int rfl (by omega), trivial⟩
           ·exact fun _ h => ⟨by omega, h⟩
           )
         ·first | (exfalso; omega) | (
           refine jnt ?_; refine jc_false rfl ?_; refine jc_skip ?_; refine jq_block ?_; refine jq_then ?_; refine jc_region ?_; refine jz ?_; refine jy (ysf rfl rfl) ?_; refine jz ?_; refine jl_nil ?_; refine jq_round (i := j) (j + 1) ?_ ?_ ?_
           ·omega
           ·exact ⟨rfl, rfl, lk_int rfl (by omega), rfl, lk_bool rfl (by first | (have h9 := of_decide_eq_true h32; exact (decide_eq_true (by omega)).symm) | (have h9 := of_decide_eq_false h32; first | exact (decide_eq_true (by omega)).symm | exact (decide_eq_false (by omega)).symm)), lk_int rfl (by omega), trivial⟩
           ·exact fun _ h => ⟨by omega, h⟩
           )
        ·skip
         have hs2 := ((t_step n c (by omega) j (by omega)).2 (by have := of_decide_eq_false h48; omega)).1
         (iterate 2 refine jz ?_); refine jnt ?_; refine jsr ?_; (iterate 2 refine jz ?_); refine jnt ?_; refine jc_seq ?_; refine jsr ?_; refine jz ?_; refine jnt ?_; refine jc_false rfl ?_; refine jc_skip ?_; refine jq_then ?_; refine jsr ?_; (iterate 2 refine jz ?_); refine jy (y_geq rfl rfl) ?_; refine jl_prop (fun h55 => ?_) (fun h55 => ?_)
         ·first | (exfalso; omega) | (
           refine jnt ?_; refine jc_true rfl ?_; refine jsr ?_; (iterate 2 refine jz ?_); refine jy (y_sub_u64 rfl rfl) ?_; refine jz ?_; refine jnt ?_; refine jc_region ?_; refine jz ?_; refine jy (y_add_u64 rfl rfl) ?_; refine jz ?_; refine jl_nil ?_; refine jq_block ?_; refine jq_then ?_; refine jc_region ?_; refine jz ?_; refine jy (ysf rfl rfl) ?_; refine jz ?_; refine jl_nil ?_; refine jq_round (i := j) (j + 1) ?_ ?_ ?_
           ·omega
           ·exact ⟨rfl, rfl, lk_int rfl (by omega), rfl, lk_bool rfl (by first | (have h9 := of_decide_eq_true h32; exact (decide_eq_true (by omega)).symm) | (have h9 := of_decide_eq_false h32; first | exact (decide_eq_true (by omega)).symm | exact (decide_eq_false (by omega)).symm)), lk_int rfl (by omega), trivial⟩
           ·exact fun _ h => ⟨by omega, h⟩
           )
         ·first | (exfalso; omega) | (
           refine jnt ?_; refine jc_false rfl ?_; refine jc_skip ?_; refine jq_block ?_; refine jq_then ?_; refine jc_region ?_; refine jz ?_; refine jy (ysf rfl rfl) ?_; refine jz ?_; refine jl_nil ?_; refine jq_round (i := j) (j + 1) ?_ ?_ ?_
           ·omega
           ·exact ⟨rfl, rfl, lk_int rfl (by omega), rfl, lk_bool rfl (by first | (have h9 := of_decide_eq_true h32; exact (decide_eq_true (by omega)).symm) | (have h9 := of_decide_eq_false h32; first | exact (decide_eq_true (by omega)).symm | exact (decide_eq_false (by omega)).symm)), lk_int rfl (by omega), trivial⟩
           ·exact fun _ h => ⟨by omega, h⟩
           )
       ·skip
        (iterate 2 refine jz ?_); refine jpc (goes_func rfl) (fun w1 hw1 => rtop_any w1) ?_; refine jy (y_quo rfl rfl (by omega) (by omega) (by simp only [fits]; omega)) ?_; refine jy (y_gtr rfl rfl) ?_; refine jl_prop (fun h37 => ?_) (fun h37 => ?_)
        ·first | (exfalso; omega) | (
          refine jy (y_pick_false rfl rfl) ?_; refine jz ?_; refine jnt ?_; refine jsr ?_; refine jz ?_; refine jy (y_mul_u64 rfl rfl) ?_; refine jz ?_; refine jnt ?_; refine jsr ?_; (iterate 2 refine jz ?_); refine jy (y_rem rfl rfl (by omega) (by omega)) ?_; refine jl_as (u := .int .u64 (bitAt n (127 - j))) (congrArg _ (by rw [show m = (127 - j) % 16 by omega]; exact dgt_bit n (127 - j))) ?_; refine jz ?_; refine jpc (goes_func rfl) (fun w1 hw1 => rtwice_any _ _ _ w1 (by omega) (by omega) (by omega) (by omega) (by omega)) ?_; (iterate 2 refine jz ?_); refine jl_as (u := .int .u64 (tR n c (j + 1))) (congrArg _ (tR_next n c (by omega) j (by omega))) ?_; refine jz ?_; refine jl_bool (fun h48 => ?_) (fun h48 => ?_)
          ·skip
           have hs2 := ((t_step n c (by omega) j (by omega)).1 (of_decide_eq_true h48)).1
           (iterate 2 refine jz ?_); refine jnt ?_; refine jsr ?_; (iterate 2 refine jz ?_); refine jnt ?_; refine jc_seq ?_; refine jsr ?_; refine jz ?_; refine jnt ?_; refine jc_true rfl ?_; refine jc_region ?_; refine jz ?_; refine jy (y_add_u64 rfl rfl) ?_; refine jz ?_; refine jnt ?_; refine jsr ?_; (iterate 2 refine jz ?_); refine jy (y_geq rfl rfl) ?_; refine jl_prop (fun h55 => ?_) (fun h55 => ?_)
           ·first | (exfalso; omega) | (
             refine jnt ?_; refine jc_true rfl ?_; refine jsr ?_; (iterate 2 refine jz ?_); refine jy (y_sub_u64 rfl rfl) ?_; refine jz ?_; refine jnt ?_; refine jc_region ?_; refine jz ?_; refine jy (y_add_u64 rfl rfl) ?_; refine jz ?_; refine jl_nil ?_; refine jq_block ?_; refine jq_then ?_; refine jc_region ?_; refine jz ?_; refine jy (ysf rfl rfl) ?_; refine jz ?_; refine jl_nil ?_; refine jq_round (i := j) (j + 1) ?_ ?_ ?_
             ·omega
             ·exact ⟨rfl, rfl, lk_int rfl (by omega), rfl, lk_bool rfl (by first | (have h9 := of_decide_eq_true h32; exact (decide_eq_true (by omega)).symm) | (have h9 := of_decide_eq_false h32; first | exact (decide_eq_true (by omega)).symm | exact (decide_eq_false (by omega)).symm)), lk_int rfl (by omega), trivial⟩
             ·exact fun _ h => ⟨by omega, h⟩
             )
           ·first | (exfalso; omega) | (
             refine jnt ?_; refine jc_false rfl ?_; refine jc_skip ?_; refine jq_block ?_; refine jq_then ?_; refine jc_region ?_; refine jz ?_; refine jy (ysf rfl rfl) ?_; refine jz ?_; refine jl_nil ?_; refine jq_round (i := j) (j + 1) ?_ ?_ ?_
             ·omega
             ·exact ⟨rfl, rfl, lk_int rfl (by omega), rfl, lk_bool rfl (by first | (have h9 := of_decide_eq_true h32; exact (decide_eq_true (by omega)).symm) | (have h9 := of_decide_eq_false h32; first | exact (decide_eq_true (by omega)).symm | exact (decide_eq_false (by omega)).symm)), lk_int rfl (by omega), trivial⟩
             ·exact fun _ h => ⟨by omega, h⟩
             )
          ·skip
           have hs2 := ((t_step n c (by omega) j (by omega)).2 (by have := of_decide_eq_false h48; omega)).1
           (iterate 2 refine jz ?_); refine jnt ?_; refine jsr ?_; (iterate 2 refine jz ?_); refine jnt ?_; refine jc_seq ?_; refine jsr ?_; refine jz ?_; refine jnt ?_; refine jc_false rfl ?_; refine jc_skip ?_; refine jq_then ?_; refine jsr ?_; (iterate 2 refine jz ?_); refine jy (y_geq rfl rfl) ?_; refine jl_prop (fun h55 => ?_) (fun h55 => ?_)
           ·first | (exfalso; omega) | (
             refine jnt ?_; refine jc_true rfl ?_; refine jsr ?_; (iterate 2 refine jz ?_); refine jy (y_sub_u64 rfl rfl) ?_; refine jz ?_; refine jnt ?_; refine jc_region ?_; refine jz ?_; refine jy (y_add_u64 rfl rfl) ?_; refine jz ?_; refine jl_nil ?_; refine jq_block ?_; refine jq_then ?_; refine jc_region ?_; refine jz ?_; refine jy (ysf rfl rfl) ?_; refine jz ?_; refine jl_nil ?_; refine jq_round (i := j) (j + 1) ?_ ?_ ?_
             ·omega
             ·exact ⟨rfl, rfl, lk_int rfl (by omega), rfl, lk_bool rfl (by first | (have h9 := of_decide_eq_true h32; exact (decide_eq_true (by omega)).symm) | (have h9 := of_decide_eq_false h32; first | exact (decide_eq_true (by omega)).symm | exact (decide_eq_false (by omega)).symm)), lk_int rfl (by omega), trivial⟩
             ·exact fun _ h => ⟨by omega, h⟩
             )
           ·first | (exfalso; omega) | (
             refine jnt ?_; refine jc_false rfl ?_; refine jc_skip ?_; refine jq_block ?_; refine jq_then ?_; refine jc_region ?_; refine jz ?_; refine jy (ysf rfl rfl) ?_; refine jz ?_; refine jl_nil ?_; refine jq_round (i := j) (j + 1) ?_ ?_ ?_
             ·omega
             ·exact ⟨rfl, rfl, lk_int rfl (by omega), rfl, lk_bool rfl (by first | (have h9 := of_decide_eq_true h32; exact (decide_eq_true (by omega)).symm) | (have h9 := of_decide_eq_false h32; first | exact (decide_eq_true (by omega)).symm | exact (decide_eq_false (by omega)).symm)), lk_int rfl (by omega), trivial⟩
             ·exact fun _ h => ⟨by omega, h⟩
             )
          )
        ·first | (exfalso; omega) | (
          refine jy (y_pick_false rfl rfl) ?_; refine jz ?_; refine jnt ?_; refine jsr ?_; refine jz ?_; refine jy (y_mul_u64 rfl rfl) ?_; refine jz ?_; refine jnt ?_; refine jsr ?_; (iterate 2 refine jz ?_); refine jy (y_rem rfl rfl (by omega) (by omega)) ?_; refine jl_as (u := .int .u64 (bitAt n (127 - j))) (congrArg _ (by rw [show m = (127 - j) % 16 by omega]; exact dgt_bit n (127 - j))) ?_; refine jz ?_; refine jpc (goes_func rfl) (fun w1 hw1 => rtwice_any _ _ _ w1 (by omega) (by omega) (by omega) (by omega) (by omega)) ?_; (iterate 2 refine jz ?_); refine jl_as (u := .int .u64 (tR n c (j + 1))) (congrArg _ (tR_next n c (by omega) j (by omega))) ?_; refine jz ?_; refine jl_bool (fun h48 => ?_) (fun h48 => ?_)
          ·skip
           have hs2 := ((t_step n c (by omega) j (by omega)).1 (of_decide_eq_true h48)).1
           (iterate 2 refine jz ?_); refine jnt ?_; refine jsr ?_; (iterate 2 refine jz ?_); refine jnt ?_; refine jc_seq ?_; refine jsr ?_; refine jz ?_; refine jnt ?_; refine jc_true rfl ?_; refine jc_region ?_; refine jz ?_; refine jy (y_add_u64 rfl rfl) ?_; refine jz ?_; refine jnt ?_; refine jsr ?_; (iterate 2 refine jz ?_); refine jy (y_geq rfl rfl) ?_; refine jl_prop (fun h55 => ?_) (fun h55 => ?_)
           ·first | (exfalso; omega) | (
             refine jnt ?_; refine jc_true rfl ?_; refine jsr ?_; (iterate 2 refine jz ?_); refine jy (y_sub_u64 rfl rfl) ?_; refine jz ?_; refine jnt ?_; refine jc_region ?_; refine jz ?_; refine jy (y_add_u64 rfl rfl) ?_; refine jz ?_; refine jl_nil ?_; refine jq_block ?_; refine jq_then ?_; refine jc_region ?_; refine jz ?_; refine jy (ysf rfl rfl) ?_; refine jz ?_; refine jl_nil ?_; refine jq_round (i := j) (j + 1) ?_ ?_ ?_
             ·omega
             ·exact ⟨rfl, rfl, lk_int rfl (by omega), rfl, lk_bool rfl (by first | (have h9 := of_decide_eq_true h32; exact (decide_eq_true (by omega)).symm) | (have h9 := of_decide_eq_false h32; first | exact (decide_eq_true (by omega)).symm | exact (decide_eq_false (by omega)).symm)), lk_int rfl (by omega), trivial⟩
             ·exact fun _ h => ⟨by omega, h⟩
             )
           ·first | (exfalso; omega) | (
             refine jnt ?_; refine jc_false rfl ?_; refine jc_skip ?_; refine jq_block ?_; refine jq_then ?_; refine jc_region ?_; refine jz ?_; refine jy (ysf rfl rfl) ?_; refine jz ?_; refine jl_nil ?_; refine jq_round (i := j) (j + 1) ?_ ?_ ?_
             ·omega
             ·exact ⟨rfl, rfl, lk_int rfl (by omega), rfl, lk_bool rfl (by first | (have h9 := of_decide_eq_true h32; exact (decide_eq_true (by omega)).symm) | (have h9 := of_decide_eq_false h32; first | exact (decide_eq_true (by omega)).symm | exact (decide_eq_false (by omega)).symm)), lk_int rfl (by omega), trivial⟩
             ·exact fun _ h => ⟨by omega, h⟩
             )
          ·skip
           have hs2 := ((t_step n c (by omega) j (by omega)).2 (by have := of_decide_eq_false h48; omega)).1
           (iterate 2 refine jz ?_); refine jnt ?_; refine jsr ?_; (iterate 2 refine jz ?_); refine jnt ?_; refine jc_seq ?_; refine jsr ?_; refine jz ?_; refine jnt ?_; refine jc_false rfl ?_; refine jc_skip ?_; refine jq_then ?_; refine jsr ?_; (iterate 2 refine jz ?_); refine jy (y_geq rfl rfl) ?_; refine jl_prop (fun h55 => ?_) (fun h55 => ?_)
           ·first | (exfalso; omega) | (
             refine jnt ?_; refine jc_true rfl ?_; refine jsr ?_; (iterate 2 refine jz ?_); refine jy (y_sub_u64 rfl rfl) ?_; refine jz ?_; refine jnt ?_; refine jc_region ?_; refine jz ?_; refine jy (y_add_u64 rfl rfl) ?_; refine jz ?_; refine jl_nil ?_; refine jq_block ?_; refine jq_then ?_; refine jc_region ?_; refine jz ?_; refine jy (ysf rfl rfl) ?_; refine jz ?_; refine jl_nil ?_; refine jq_round (i := j) (j + 1) ?_ ?_ ?_
             ·omega
             ·exact ⟨rfl, rfl, lk_int rfl (by omega), rfl, lk_bool rfl (by first | (have h9 := of_decide_eq_true h32; exact (decide_eq_true (by omega)).symm) | (have h9 := of_decide_eq_false h32; first | exact (decide_eq_true (by omega)).symm | exact (decide_eq_false (by omega)).symm)), lk_int rfl (by omega), trivial⟩
             ·exact fun _ h => ⟨by omega, h⟩
             )
           ·first | (exfalso; omega) | (
             refine jnt ?_; refine jc_false rfl ?_; refine jc_skip ?_; refine jq_block ?_; refine jq_then ?_; refine jc_region ?_; refine jz ?_; refine jy (ysf rfl rfl) ?_; refine jz ?_; refine jl_nil ?_; refine jq_round (i := j) (j + 1) ?_ ?_ ?_
             ·omega
             ·exact ⟨rfl, rfl, lk_int rfl (by omega), rfl, lk_bool rfl (by first | (have h9 := of_decide_eq_true h32; exact (decide_eq_true (by omega)).symm) | (have h9 := of_decide_eq_false h32; first | exact (decide_eq_true (by omega)).symm | exact (decide_eq_false (by omega)).symm)), lk_int rfl (by omega), trivial⟩
             ·exact fun _ h => ⟨by omega, h⟩
             )
          )
       )
    )
  ·first | (exfalso; omega) | (refine jnt ?_; refine jc_false rfl ?_; refine jc_exit ?_; (iterate 2 refine jq_then_exit ?_); refine jq_hit ?_; refine jq_then ?_; refine jsr ?_; (iterate 6 refine jz ?_); refine jnt ?_; refine jc_ret ?_; refine jq_ret3 rfl rfl rfl rfl ?_; exact fun _ hw => ⟨by have e : j = 128 := (by omega); subst e; rfl, hw.ch⟩)

theorem rmuldiv_any (a b c : Int) (w : World) (ha : fits .u64 a) (hb : fits .u64 b) (hc : fits .u64 c) :
  Calls Tryz.prog 82 #[.int .u64 a, .int .u64 b, .int .u64 c] w fun e w' => e = .returned (.tuple #[.int .u64 (mdV a b c), .int .i64 (mdE a b c)]) ∧ Ch [] w w' := by
 simp only [fits] at ha hb hc
 have hn := prod_nonneg ha.1 hb.1
 have hn2 := prod_lt ha.1 ha.2 hb.1 hb.2
 have hq := tQ_end (a * b) c
 have hr := tR_end (a * b) c
 refine calls_of (n := 24) (E := [(0, .int .u64 a), (1, .int .u64 b), (2, .int .u64 c)]) (W := Hp w [] []) Tryz.func82 rfl rfl (Nat.le_of_ble_eq_true rfl) rfl (Hp.nil _ _) ?_; refine jsr ?_; (iterate 2 refine jz ?_); refine jnt ?_; refine jc_seq ?_; refine jsr ?_; refine jz ?_; refine jy (y_eql rfl rfl) ?_; refine jl_prop (fun h12 => ?_) (fun h12 => ?_)
 ·first | (exfalso; omega) | (refine jnt ?_; refine jc_true rfl ?_; refine jsr ?_; (iterate 2 refine jz ?_); refine jnt ?_; refine jc_ret ?_; refine jq_then_ret ?_; refine jq_ret2 rfl rfl rfl ?_; exact fun _ hw => ⟨by unfold mdV mdE; rw [if_pos h12, if_pos h12], hw.ch⟩)
 ·first | (exfalso; omega) | (
   refine jnt ?_; refine jc_false rfl ?_; refine jc_skip ?_; refine jq_then ?_; refine jsr ?_; (iterate 2 refine jz ?_); refine jl_fcall rfl (by decide) rfl (goes_func rfl) (fun w1 hw1 => rproduct_any _ _ w1 (by simp only [fits] at *; omega) (by simp only [fits] at *; omega)) (fun bp => ?_); refine jz ?_; refine jpc (goes_func rfl) (fun w1 hw1 => rdivide_any _ 8 9 (a * b) c w1 (by omega) hn hn2 (by simp only [fits]; exact hc) h12 (fun j hj => row_cell (hw1.get mem0) ((map_get _ _ _ (by rw [carS_length]; omega)).trans (by rw [carS_digit a b ha.1 ha.2 hb.1 hb.2 j hj])))) ?_; (iterate 4 refine jz ?_); refine jl_bool (fun h21 => ?_) (fun h21 => ?_)
   ·skip
    have hov : 18446744073709551616 ≤ a * b / c := by have := of_decide_eq_true h21; omega
    (iterate 3 refine jz ?_); refine jnt ?_; refine jc_seq ?_; refine jsr ?_; refine jz ?_; refine jnt ?_; refine jc_true rfl ?_; refine jsr ?_; (iterate 2 refine jz ?_); refine jnt ?_; refine jc_ret ?_; refine jq_then_ret ?_; refine jq_ret2 rfl rfl rfl ?_; exact fun _ hw => ⟨by unfold mdV mdE; rw [if_neg h12, if_neg h12, if_pos hov, if_pos hov], hw.ch⟩
   ·skip
    have hov : ¬ 18446744073709551616 ≤ a * b / c := by have := of_decide_eq_false h21; omega
    have hnn : 0 ≤ a * b / c := Int.ediv_nonneg hn hc.1
    (iterate 3 refine jz ?_); refine jnt ?_; refine jc_seq ?_; refine jsr ?_; refine jz ?_; refine jnt ?_; refine jc_false rfl ?_; refine jc_skip ?_; refine jq_then ?_; refine jsr ?_; (iterate 3 refine jz ?_); refine jnt ?_; refine jc_ret ?_; refine jq_ret2 rfl rfl rfl ?_; exact fun _ hw => ⟨by unfold mdV mdE; rw [if_neg h12, if_neg h12, if_neg hov, if_neg hov]; exact congrArg (fun z => Ending.returned (.tuple #[.int .u64 z, .int .i64 0])) (by rw [hq]; omega), hw.ch⟩
   )

theorem rrem_any (a b c : Int) (w : World) (ha : fits .u64 a) (hb : fits .u64 b) (hc : fits .u64 c) :
  Calls Tryz.prog 81 #[.int .u64 a, .int .u64 b, .int .u64 c] w fun e w' => e = .returned (.tuple #[.int .u64 (rmV a b c), .int .i64 (rmE c)]) ∧ Ch [] w w' := by
 simp only [fits] at ha hb hc
 have hn := prod_nonneg ha.1 hb.1
 have hn2 := prod_lt ha.1 ha.2 hb.1 hb.2
 have hq := tQ_end (a * b) c
 have hr := tR_end (a * b) c
 refine calls_of (n := 23) (E := [(0, .int .u64 a), (1, .int .u64 b), (2, .int .u64 c)]) (W := Hp w [] []) Tryz.func81 rfl rfl (Nat.le_of_ble_eq_true rfl) rfl (Hp.nil _ _) ?_; refine jsr ?_; (iterate 2 refine jz ?_); refine jnt ?_; refine jc_seq ?_; refine jsr ?_; refine jz ?_; refine jy (y_eql rfl rfl) ?_; refine jl_prop (fun h12 => ?_) (fun h12 => ?_)
 ·first | (exfalso; omega) | (refine jnt ?_; refine jc_true rfl ?_; refine jsr ?_; (iterate 2 refine jz ?_); refine jnt ?_; refine jc_ret ?_; refine jq_then_ret ?_; refine jq_ret2 rfl rfl rfl ?_; exact fun _ hw => ⟨by unfold rmV rmE; rw [if_pos h12, if_pos h12], hw.ch⟩)
 ·first | (exfalso; omega) | (refine jnt ?_; refine jc_false rfl ?_; refine jc_skip ?_; refine jq_then ?_; refine jsr ?_; (iterate 2 refine jz ?_); refine jl_fcall rfl (by decide) rfl (goes_func rfl) (fun w1 hw1 => rproduct_any _ _ w1 (by simp only [fits] at *; omega) (by simp only [fits] at *; omega)) (fun bp => ?_); refine jz ?_; refine jpc (goes_func rfl) (fun w1 hw1 => rdivide_any _ 8 9 (a * b) c w1 (by omega) hn hn2 (by simp only [fits]; exact hc) h12 (fun j hj => row_cell (hw1.get mem0) ((map_get _ _ _ (by rw [carS_length]; omega)).trans (by rw [carS_digit a b ha.1 ha.2 hb.1 hb.2 j hj])))) ?_; (iterate 7 refine jz ?_); refine jnt ?_; refine jsr ?_; (iterate 3 refine jz ?_); refine jnt ?_; refine jc_ret ?_; refine jq_ret2 rfl rfl rfl ?_; exact fun _ hw => ⟨by unfold rmV rmE; rw [if_neg h12, if_neg h12]; exact congrArg (fun z => Ending.returned (.tuple #[.int .u64 z, .int .i64 0])) hr, hw.ch⟩)

theorem rput_any (n : Int) (w : World) (hn : fits .u64 n) :
  Calls Tryz.prog 86 #[.int .u64 n] w fun e w' => e = .returned (.string (putS n)) ∧ Ch [] w w' := by
 simp only [fits] at hn
 refine calls_of (n := 19) (E := [(0, .int .u64 n)]) (W := Hp w [] []) Tryz.func86 rfl rfl (Nat.le_of_ble_eq_true rfl) rfl (Hp.nil _ _) ?_; refine jsr ?_; refine jz ?_; refine jnt ?_; refine jsr ?_; refine jz ?_; refine jnt ?_; refine jc_seq ?_; refine jsr ?_; refine jz ?_; refine jnt ?_; refine jc_block ?_; refine jc_loop (fun (i : Nat) => [(0, .int .u64 (n / 2 ^ (8 * i))), (3, .string (putT n i)), (4, .int .i64 (i : Nat))]) (fun (i : Nat) => fun w' => i ≤ 8 ∧ Hp w [] [] w') (fun (i : Nat) => 8 - i) 0 ?_ ?_ ?_
 ·exact ⟨lk_int rfl (by simp), rfl, rfl, trivial⟩
 ·exact fun _ h => ⟨by omega, h⟩
 ·intro i
  refine jc_and (fun hi => ?_)
  have hp0 : (0 : Int) ≤ n / 2 ^ (8 * i) := Int.ediv_nonneg hn.1 (Int.le_of_lt (Int.pow_pos (by decide)))
  have hp1 : n / 2 ^ (8 * i) ≤ n := Int.ediv_le_self _ hn.1
  refine jc_seq ?_; refine jsr ?_; refine jz ?_; refine jy (y_lss rfl rfl) ?_; refine jl_prop (fun h6 => ?_) (fun h6 => ?_)
  ·first | (exfalso; omega) | (
    refine jnt ?_; refine jc_true rfl ?_; refine jc_skip ?_; refine jq_then ?_; refine jc_seq ?_; refine jc_block ?_; refine jsr ?_; refine jz ?_; refine jy (y_rem rfl rfl (by omega) (by omega)) ?_; refine jy (y_conv_fits rfl (by simp only [fits]; omega)) ?_; refine jl_m rfl (by decide) rfl (m_buildSlice (by decide) (Built.cell rfl rfl rfl (by repeat constructor) Built.nil)) (fun b12 => ?_); refine jy (y_str_own rfl (by first | exact mem0 | exact mem1 | exact mem2 | exact mem3 | exact mem4 | exact mem5) (by repeat constructor)) ?_; refine jz ?_; refine jy (y_concat rfl rfl (by rw [strOfNums_size, putT_size _ _ (by omega)]; simp only [List.length_cons, List.length_nil]; omega)) ?_; refine jl_as (u := .string (putT n (i + 1))) (congrArg Value.string (putT_next n i (by omega)).symm) ?_; refine jz ?_; refine jnt ?_; refine jc_region ?_; refine jz ?_; refine jy (y_quo rfl rfl (by omega) (by omega) (by simp only [fits]; omega)) ?_; refine jl_as (congrArg _ (div_pow256 n i)) ?_; refine jz ?_; refine jl_nil ?_; refine jq_block ?_; refine jq_then ?_; refine jc_region ?_; refine jz ?_; refine jy (yaf rfl rfl) ?_; refine jz ?_; refine jl_nil ?_; refine jq_round (i := i) (i + 1) ?_ ?_ ?_
    ·omega
    ·exact ⟨rfl, rfl, lk_int rfl (by omega), trivial⟩
    ·exact fun _ h => ⟨by omega, h.part .nil⟩
    )
  ·first | (exfalso; omega) | (
    refine jnt ?_; refine jc_false rfl ?_; refine jc_exit ?_; (iterate 2 refine jq_then_exit ?_); refine jq_hit ?_; refine jq_then ?_; refine jc_seq ?_
    have hi8 : i = 8 := by omega
    subst hi8
    refine jc_region ?_; (iterate 2 refine jz ?_); refine jnt ?_; refine jc_ret ?_; refine jq_ret1 rfl rfl ?_; exact fun _ hw => ⟨rfl, hw.ch⟩
    )

theorem radd_any (a b : Int) (w : World) (ha : fits .u64 a) (hb : fits .u64 b) :
  Calls Tryz.prog 55 #[.int .u64 a, .int .u64 b] w fun e w' => e = .returned (.tuple #[.int .u64 (addV a b), .int .i64 (addE a b)]) ∧ Ch [] w w' := by
 simp only [fits] at ha hb
 refine calls_of (n := 14) (E := [(0, .int .u64 a), (1, .int .u64 b)]) (W := Hp w [] []) Tryz.func55 rfl rfl (Nat.le_of_ble_eq_true rfl) rfl (Hp.nil _ _) ?_; refine jsr ?_; (iterate 2 refine jz ?_); refine jnt ?_; refine jc_seq ?_; refine jsr ?_; refine jz ?_; refine jpc (goes_func rfl) (fun w1 hw1 => rtop_any w1) ?_; refine jz ?_; refine jy (y_sub_u64 rfl rfl) ?_; refine jy (y_gtr rfl rfl) ?_; refine jl_prop (fun h10 => ?_) (fun h10 => ?_)
 ·first | (exfalso; omega) | (refine jnt ?_; refine jc_true rfl ?_; refine jsr ?_; (iterate 2 refine jz ?_); refine jnt ?_; refine jc_ret ?_; refine jq_then_ret ?_; refine jq_ret2 rfl rfl rfl ?_; exact fun _ hw => ⟨by unfold addV addE; rw [if_pos (by omega), if_pos (by omega)], hw.ch⟩)
 ·first | (exfalso; omega) | (refine jnt ?_; refine jc_false rfl ?_; refine jc_skip ?_; refine jq_then ?_; refine jsr ?_; (iterate 2 refine jz ?_); refine jy (y_add_u64 rfl rfl) ?_; (iterate 2 refine jz ?_); refine jnt ?_; refine jc_ret ?_; refine jq_ret2 rfl rfl rfl ?_; exact fun _ hw => ⟨by unfold addV addE; rw [if_neg (by omega), if_neg (by omega)]; exact congrArg (fun z => Ending.returned (.tuple #[.int .u64 z, .int .i64 0])) (Int.emod_eq_of_lt (by omega) (by omega)), hw.ch⟩)

end Go.Proofs.YtghomncegjamfaaGreat