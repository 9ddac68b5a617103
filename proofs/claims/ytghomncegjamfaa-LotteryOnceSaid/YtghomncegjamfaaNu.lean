/- The walks of packages num and turnstileref01. Written by program (walk.py) out of a table of contracts and invariants. -/
import Derived.Test.YtghomncegjamfaaMnum
import Derived.Test.YtghomncegjamfaaTd
import Derived.Test.YtghomncegjamfaaJj
namespace Go.Proofs.Ytghomncegjamfaa
open Go.RowKit
set_option maxRecDepth 100000
set_option linter.unusedVariables false
set_option linter.unusedSimpArgs false
attribute [local irreducible] Yields Makes Writes

theorem nproduct_any (a b : Int) (w : World) (ha : fits .u64 a) (hb : fits .u64 b) :
  Calls Try.prog 76 #[.int .u64 a, .int .u64 b] w fun e w' => e = .returned (.tuple #[.int .u64 (a * b / 18446744073709551616), .int .u64 (a * b % 18446744073709551616)]) ∧ Ch [] w w' := by
 simp only [fits] at ha hb
 have hp := prod_halves a b ha.1 ha.2 hb.1 hb.2
 refine calls_of (n := 50) (E := [(0, .int .u64 a), (1, .int .u64 b)]) (W := Hp w [] []) Try.func76 rfl rfl (Nat.le_of_ble_eq_true rfl) rfl (Hp.nil _ _) ?_
 refine jsr ?_
 refine jz ?_
 refine jz ?_
 refine jnt ?_
 refine jsr ?_
 refine jz ?_
 refine jy (y_shr_by (m := 4294967296) rfl rfl (by decide) (by decide) (by decide)) ?_
 refine jz ?_
 refine jy (y_and rfl rfl) ?_
 refine jl_as (congrArg _ (and_low32 _)) ?_
 refine jz ?_
 refine jy (y_shr_by (m := 4294967296) rfl rfl (by decide) (by decide) (by decide)) ?_
 refine jz ?_
 refine jy (y_and rfl rfl) ?_
 refine jl_as (congrArg _ (and_low32 _)) ?_
 refine jz ?_
 refine jz ?_
 refine jz ?_
 refine jz ?_
 refine jnt ?_
 refine jsr ?_
 refine jz ?_
 refine jz ?_
 refine jy (y_mul_u64 rfl rfl) ?_
 refine jz ?_
 refine jz ?_
 refine jy (y_mul_u64 rfl rfl) ?_
 refine jy (y_shr_by (m := 4294967296) rfl rfl (by decide) (by decide) (by decide)) ?_
 refine jy (y_add_u64 rfl rfl) ?_
 refine jl_as (u := .int .u64 (midF a b)) rfl ?_
 refine jz ?_
 refine jnt ?_
 refine jsr ?_
 refine jz ?_
 refine jz ?_
 refine jy (y_mul_u64 rfl rfl) ?_
 refine jz ?_
 refine jy (y_and rfl rfl) ?_
 refine jl_as (congrArg _ (and_low32 _)) ?_
 refine jy (y_add_u64 rfl rfl) ?_
 refine jl_as (u := .int .u64 (otherF a b)) rfl ?_
 refine jz ?_
 refine jnt ?_
 refine jsr ?_
 refine jz ?_
 refine jz ?_
 refine jy (y_mul_u64 rfl rfl) ?_
 refine jz ?_
 refine jy (y_shr_by (m := 4294967296) rfl rfl (by decide) (by decide) (by decide)) ?_
 refine jy (y_add_u64 rfl rfl) ?_
 refine jz ?_
 refine jy (y_shr_by (m := 4294967296) rfl rfl (by decide) (by decide) (by decide)) ?_
 refine jy (y_add_u64 rfl rfl) ?_
 refine jl_as (u := .int .u64 (a * b / 18446744073709551616)) (congrArg _ hp.1) ?_
 refine jz ?_
 refine jy (y_shl_by_u64 (m := 4294967296) rfl rfl (by decide) (by decide) (by decide)) ?_
 refine jz ?_
 refine jz ?_
 refine jy (y_mul_u64 rfl rfl) ?_
 refine jy (y_and rfl rfl) ?_
 refine jl_as (congrArg _ (and_low32 _)) ?_
 refine jy (y_or rfl rfl) ?_
 refine jl_as (u := .int .u64 (a * b % 18446744073709551616)) (congrArg _ ((or_half _ _ (by omega) (by omega)).trans hp.2)) ?_
 refine jz ?_
 refine jz ?_
 refine jnt ?_
 refine jc_ret ?_
 refine jq_ret2 rfl rfl rfl ?_
 exact fun _ hw => ⟨rfl, hw.ch⟩

theorem ndivide_any (hi lo c : Int) (w : World) (hh : fits .u64 hi) (hl : fits .u64 lo) (hc : fits .u64 c) (hc0 : c ≠ 0) :
  Calls Try.prog 77 #[.int .u64 hi, .int .u64 lo, .int .u64 c] w fun e w' => e = .returned (.tuple #[.int .u64 (qJ hi lo c 64), .int .u64 (rJ hi lo c 64), .bool (decide (c ≤ hi))]) ∧ Ch [] w w' := by
 simp only [fits] at hh hl hc
 have hq0 := qJ_zero hi lo c (by omega)
 refine calls_of (n := 47) (E := [(0, .int .u64 hi), (1, .int .u64 lo), (2, .int .u64 c)]) (W := Hp w [] []) Try.func77 rfl rfl (Nat.le_of_ble_eq_true rfl) rfl (Hp.nil _ _) ?_
 refine jsr ?_
 refine jz ?_
 refine jz ?_
 refine jz ?_
 refine jnt ?_
 refine jsr ?_
 refine jz ?_
 refine jz ?_
 refine jy (y_geq rfl rfl) ?_
 refine jz ?_
 refine jnt ?_
 refine jsr ?_
 refine jz ?_
 refine jz ?_
 refine jy (y_rem rfl rfl (by omega) (by omega)) ?_
 refine jl_as (u := .int .u64 (rJ hi lo c 0)) (congrArg _ hq0.2.symm) ?_
 refine jz ?_
 refine jnt ?_
 refine jc_seq ?_
 refine jsr ?_
 refine jz ?_
 refine jnt ?_
 refine jc_block ?_
 refine jc_loop (fun (j : Nat) => [(1, .int .u64 lo), (2, .int .u64 c), (6, .int .u64 (qJ hi lo c j)), (7, .int .u64 (rJ hi lo c j)), (8, .bool (decide (c ≤ hi))), (9, .int .i64 (63 - (j : Int)))]) (fun (j : Nat) => fun w' => j ≤ 64 ∧ Hp w [] [] w') (fun (j : Nat) => 64 - j) 0 ?_ ?_ ?_
 ·exact ⟨rfl, rfl, lk_int rfl hq0.1.symm, rfl, rfl, rfl, trivial⟩
 ·exact fun _ h => ⟨by omega, h⟩
 ·intro j
  refine jc_and (fun hj => ?_)
  have hr := rJ_range hi lo c (by omega) j
  have hb := bitAt_range lo (63 - j)
  have hs := qr_step hi lo c (by omega) j
  have hq := qJ_range64 hi lo c (by omega) j
  refine jc_seq ?_
  refine jsr ?_
  refine jz ?_
  refine jy (y_geq rfl rfl) ?_
  refine jl_prop (fun h18 => ?_) (fun h18 => ?_)
  ·first
   | (exfalso; omega)
   | (
    refine jnt ?_
    refine jc_true rfl ?_
    refine jc_skip ?_
    refine jq_then ?_
    refine jc_seq ?_
    refine jc_block ?_
    refine jsr ?_
    refine jz ?_
    refine jy (y_shr_by (m := 9223372036854775808) rfl rfl (by decide) (by decide) (by decide)) ?_
    refine jz ?_
    refine jnt ?_
    refine jsr ?_
    refine jz ?_
    refine jy (y_shl_by_u64 (m := 2) rfl rfl (by decide) (by decide) (by decide)) ?_
    refine jz ?_
    refine jz ?_
    refine jy (y_shr rfl rfl (by omega) (by simp only [IntKind.bits]; omega)) ?_
    refine jl_as (u := .int .u64 (lo / 2 ^ (63 - j))) (by congr 3; omega) ?_
    refine jy (y_and rfl rfl) ?_
    refine jl_as (u := .int .u64 (bitAt lo (63 - j))) (congrArg _ (and_one _)) ?_
    refine jy (y_or rfl rfl) ?_
    refine jl_as (congrArg _ (or_bit _ _ (by omega) (by omega))) ?_
    refine jz ?_
    refine jnt ?_
    refine jsr ?_
    refine jz ?_
    refine jy (y_shl_by_u64 (m := 2) rfl rfl (by decide) (by decide) (by decide)) ?_
    refine jz ?_
    refine jnt ?_
    refine jsr ?_
    refine jz ?_
    refine jy (y_eql rfl rfl) ?_
    refine jl_prop (fun h33 => ?_) (fun h33 => ?_)
    ·first
     | (exfalso; omega)
     | (
      refine jz ?_
      refine jsk ?_
      refine jsk ?_
      refine jsk ?_
      refine jy (y_pick_true rfl rfl) ?_
      refine jnt ?_
      refine jc_true rfl ?_
      refine jsr ?_
      refine jz ?_
      refine jz ?_
      refine jy (y_sub_u64 rfl rfl) ?_
      refine jz ?_
      refine jnt ?_
      refine jc_region ?_
      refine jz ?_
      refine jy (y_or rfl rfl) ?_
      refine jl_as (congrArg _ (or_bit _ _ (by omega) (by omega))) ?_
      refine jz ?_
      refine jl_nil ?_
      refine jq_block ?_
      refine jq_then ?_
      refine jc_region ?_
      refine jz ?_
      refine jy (y_sub_fits rfl rfl (by simp only [fits]; omega)) ?_
      refine jz ?_
      refine jl_nil ?_
      refine jq_round (i := j) (j + 1) ?_ ?_ ?_
      ·omega
      ·exact ⟨rfl, rfl, lk_int rfl (by first | (have hs2 := (hs.1 (by omega)).1; have hq3 := hq (by omega); omega) | (have hs2 := (hs.2 (by omega)).1; have hq3 := hq (by omega); omega)), lk_int rfl (by first | (have hs2 := (hs.1 (by omega)).2; omega) | (have hs2 := (hs.2 (by omega)).2; omega)), rfl, lk_int rfl (by omega), trivial⟩
      ·exact fun _ h => ⟨by omega, h⟩
      )
    ·first
     | (exfalso; omega)
     | (
      refine jz ?_
      refine jz ?_
      refine jz ?_
      refine jy (y_geq rfl rfl) ?_
      refine jl_prop (fun h37 => ?_) (fun h37 => ?_)
      ·first
       | (exfalso; omega)
       | (
        refine jy (y_pick_false rfl rfl) ?_
        refine jnt ?_
        refine jc_true rfl ?_
        refine jsr ?_
        refine jz ?_
        refine jz ?_
        refine jy (y_sub_u64 rfl rfl) ?_
        refine jz ?_
        refine jnt ?_
        refine jc_region ?_
        refine jz ?_
        refine jy (y_or rfl rfl) ?_
        refine jl_as (congrArg _ (or_bit _ _ (by omega) (by omega))) ?_
        refine jz ?_
        refine jl_nil ?_
        refine jq_block ?_
        refine jq_then ?_
        refine jc_region ?_
        refine jz ?_
        refine jy (y_sub_fits rfl rfl (by simp only [fits]; omega)) ?_
        refine jz ?_
        refine jl_nil ?_
        refine jq_round (i := j) (j + 1) ?_ ?_ ?_
        ·omega
        ·exact ⟨rfl, rfl, lk_int rfl (by first | (have hs2 := (hs.1 (by omega)).1; have hq3 := hq (by omega); omega) | (have hs2 := (hs.2 (by omega)).1; have hq3 := hq (by omega); omega)), lk_int rfl (by first | (have hs2 := (hs.1 (by omega)).2; omega) | (have hs2 := (hs.2 (by omega)).2; omega)), rfl, lk_int rfl (by omega), trivial⟩
        ·exact fun _ h => ⟨by omega, h⟩
        )
      ·first
       | (exfalso; omega)
       | (
        refine jy (y_pick_false rfl rfl) ?_
        refine jnt ?_
        refine jc_false rfl ?_
        refine jc_skip ?_
        refine jq_block ?_
        refine jq_then ?_
        refine jc_region ?_
        refine jz ?_
        refine jy (y_sub_fits rfl rfl (by simp only [fits]; omega)) ?_
        refine jz ?_
        refine jl_nil ?_
        refine jq_round (i := j) (j + 1) ?_ ?_ ?_
        ·omega
        ·exact ⟨rfl, rfl, lk_int rfl (by first | (have hs2 := (hs.1 (by omega)).1; have hq3 := hq (by omega); omega) | (have hs2 := (hs.2 (by omega)).1; have hq3 := hq (by omega); omega)), lk_int rfl (by first | (have hs2 := (hs.1 (by omega)).2; omega) | (have hs2 := (hs.2 (by omega)).2; omega)), rfl, lk_int rfl (by omega), trivial⟩
        ·exact fun _ h => ⟨by omega, h⟩
        )
      )
    )
  ·first
   | (exfalso; omega)
   | (
    refine jnt ?_
    refine jc_false rfl ?_
    refine jc_exit ?_
    refine jq_then_exit ?_
    refine jq_then_exit ?_
    refine jq_hit ?_
    refine jq_then ?_
    refine jsr ?_
    refine jz ?_
    refine jz ?_
    refine jz ?_
    refine jz ?_
    refine jz ?_
    refine jz ?_
    refine jnt ?_
    refine jc_ret ?_
    refine jq_ret3 rfl rfl rfl rfl ?_
    exact fun _ hw => ⟨by have e : j = 64 := (by omega); subst e; rfl, hw.ch⟩
    )

theorem muldiv_any (a b c : Int) (w : World) (ha : fits .u64 a) (hb : fits .u64 b) (hc : fits .u64 c) :
  Calls Try.prog 59 #[.int .u64 a, .int .u64 b, .int .u64 c] w fun e w' => e = .returned (.tuple #[.int .u64 (mdV a b c), .int .i64 (mdE a b c)]) ∧ Ch [] w w' := by
 simp only [fits] at ha hb hc
 have hn := prod_nonneg ha.1 hb.1
 have hn2 := prod_lt ha.1 ha.2 hb.1 hb.2
 refine calls_of (n := 31) (E := [(0, .int .u64 a), (1, .int .u64 b), (2, .int .u64 c)]) (W := Hp w [] []) Try.func59 rfl rfl (Nat.le_of_ble_eq_true rfl) rfl (Hp.nil _ _) ?_
 refine jsr ?_
 refine jz ?_
 refine jz ?_
 refine jnt ?_
 refine jc_seq ?_
 refine jsr ?_
 refine jz ?_
 refine jy (y_eql rfl rfl) ?_
 refine jl_prop (fun h14 => ?_) (fun h14 => ?_)
 ·first
  | (exfalso; omega)
  | (
   refine jnt ?_
   refine jc_true rfl ?_
   refine jsr ?_
   refine jz ?_
   refine jz ?_
   refine jnt ?_
   refine jc_ret ?_
   refine jq_then_ret ?_
   refine jq_ret2 rfl rfl rfl ?_
   exact fun _ hw => ⟨by unfold mdV mdE; rw [if_pos (by omega), if_pos (by omega)], hw.ch⟩
   )
 ·first
  | (exfalso; omega)
  | (
   refine jnt ?_
   refine jc_false rfl ?_
   refine jc_skip ?_
   refine jq_then ?_
   refine jsr ?_
   refine jz ?_
   refine jz ?_
   refine jpc (goes_func rfl) (fun w1 hw1 => nproduct_any _ _ w1 (by simp only [fits] at *; omega) (by simp only [fits] at *; omega)) ?_
   refine jz ?_
   refine jz ?_
   refine jz ?_
   refine jz ?_
   refine jz ?_
   refine jnt ?_
   refine jsr ?_
   refine jz ?_
   refine jz ?_
   refine jz ?_
   refine jpc (goes_func rfl) (fun w1 hw1 => ndivide_any _ _ _ w1 (by simp only [fits] at *; omega) (by simp only [fits] at *; omega) (by simp only [fits] at *; omega) (by omega)) ?_
   refine jz ?_
   refine jz ?_
   refine jz ?_
   refine jz ?_
   refine jl_bool (fun h28 => ?_) (fun h28 => ?_)
   ·skip
    have hov := (over_iff (a * b) c (by omega)).1 (of_decide_eq_true h28)
    refine jz ?_
    refine jz ?_
    refine jz ?_
    refine jnt ?_
    refine jc_seq ?_
    refine jsr ?_
    refine jz ?_
    refine jnt ?_
    refine jc_true rfl ?_
    refine jsr ?_
    refine jz ?_
    refine jz ?_
    refine jnt ?_
    refine jc_ret ?_
    refine jq_then_ret ?_
    refine jq_ret2 rfl rfl rfl ?_
    exact fun _ hw => ⟨by unfold mdV mdE; rw [if_neg h14, if_neg h14, if_pos hov, if_pos hov], hw.ch⟩
   ·skip
    have hov0 := of_decide_eq_false h28
    have hov : ¬ 18446744073709551616 ≤ a * b / c := fun h => hov0 ((over_iff (a * b) c (by omega)).2 h)
    have hfin := div_end (a * b) c hn _ _ rfl rfl (by omega)
    refine jz ?_
    refine jz ?_
    refine jz ?_
    refine jnt ?_
    refine jc_seq ?_
    refine jsr ?_
    refine jz ?_
    refine jnt ?_
    refine jc_false rfl ?_
    refine jc_skip ?_
    refine jq_then ?_
    refine jsr ?_
    refine jz ?_
    refine jz ?_
    refine jz ?_
    refine jnt ?_
    refine jc_ret ?_
    refine jq_ret2 rfl rfl rfl ?_
    exact fun _ hw => ⟨by unfold mdV mdE; rw [if_neg h14, if_neg h14, if_neg hov, if_neg hov, ← hfin]; rfl, hw.ch⟩
   )

theorem rem_any (a b c : Int) (w : World) (ha : fits .u64 a) (hb : fits .u64 b) (hc : fits .u64 c) :
  Calls Try.prog 58 #[.int .u64 a, .int .u64 b, .int .u64 c] w fun e w' => e = .returned (.tuple #[.int .u64 (rmV a b c), .int .i64 (rmE c)]) ∧ Ch [] w w' := by
 simp only [fits] at ha hb hc
 have hn := prod_nonneg ha.1 hb.1
 have hn2 := prod_lt ha.1 ha.2 hb.1 hb.2
 refine calls_of (n := 30) (E := [(0, .int .u64 a), (1, .int .u64 b), (2, .int .u64 c)]) (W := Hp w [] []) Try.func58 rfl rfl (Nat.le_of_ble_eq_true rfl) rfl (Hp.nil _ _) ?_
 refine jsr ?_
 refine jz ?_
 refine jz ?_
 refine jnt ?_
 refine jc_seq ?_
 refine jsr ?_
 refine jz ?_
 refine jy (y_eql rfl rfl) ?_
 refine jl_prop (fun h14 => ?_) (fun h14 => ?_)
 ·first
  | (exfalso; omega)
  | (
   refine jnt ?_
   refine jc_true rfl ?_
   refine jsr ?_
   refine jz ?_
   refine jz ?_
   refine jnt ?_
   refine jc_ret ?_
   refine jq_then_ret ?_
   refine jq_ret2 rfl rfl rfl ?_
   exact fun _ hw => ⟨by unfold rmV rmE; rw [if_pos (by omega), if_pos (by omega)], hw.ch⟩
   )
 ·first
  | (exfalso; omega)
  | (
   refine jnt ?_
   refine jc_false rfl ?_
   refine jc_skip ?_
   refine jq_then ?_
   refine jsr ?_
   refine jz ?_
   refine jz ?_
   refine jpc (goes_func rfl) (fun w1 hw1 => nproduct_any _ _ w1 (by simp only [fits] at *; omega) (by simp only [fits] at *; omega)) ?_
   refine jz ?_
   refine jz ?_
   refine jz ?_
   refine jz ?_
   refine jz ?_
   refine jnt ?_
   refine jsr ?_
   refine jz ?_
   refine jz ?_
   refine jz ?_
   refine jpc (goes_func rfl) (fun w1 hw1 => ndivide_any _ _ _ w1 (by simp only [fits] at *; omega) (by simp only [fits] at *; omega) (by simp only [fits] at *; omega) (by omega)) ?_
   refine jz ?_
   refine jz ?_
   refine jz ?_
   refine jz ?_
   refine jz ?_
   refine jz ?_
   refine jz ?_
   refine jnt ?_
   refine jsr ?_
   refine jz ?_
   refine jz ?_
   refine jz ?_
   refine jnt ?_
   refine jc_ret ?_
   refine jq_ret2 rfl rfl rfl ?_
   exact fun _ hw => ⟨by unfold rmV rmE; rw [if_neg (by omega), if_neg (by omega), ← rem_end (a * b) c _ _ rfl rfl]; rfl, hw.ch⟩
   )

theorem put_any (n : Int) (w : World) (hn : fits .u64 n) :
  Calls Try.prog 62 #[.int .u64 n] w fun e w' => e = .returned (.string (putS n)) ∧ Ch [] w w' := by
 simp only [fits] at hn
 refine calls_of (n := 23) (E := [(0, .int .u64 n)]) (W := Hp w [] []) Try.func62 rfl rfl (Nat.le_of_ble_eq_true rfl) rfl (Hp.nil _ _) ?_
 refine jsr ?_
 refine jz ?_
 refine jnt ?_
 refine jsr ?_
 refine jl_m rfl (by decide) rfl (m_make rfl rfl (by first | omega | decide) (by first | omega | decide)) (fun b5 => ?_)
 refine jz ?_
 refine jnt ?_
 refine jc_seq ?_
 refine jsr ?_
 refine jz ?_
 refine jy (y_len_slice rfl) ?_
 refine jz ?_
 refine jnt ?_
 refine jc_block ?_
 refine jc_loop (fun (i : Nat) => [(0, .int .u64 n), (3, .slice (some ⟨b5, 0, none⟩) 8 8), (7, .int .i64 8), (8, .int .i64 (i : Nat))]) (fun (i : Nat) => fun w' => i ≤ 8 ∧ Hp w [] [.row (some ⟨b5, 0, none⟩) (8) (8) 5 1 ((putP n i).map (.int .u8))] w') (fun (i : Nat) => 8 - i) 0 ?_ ?_ ?_
 ·exact ⟨rfl, rfl, rfl, rfl, trivial⟩
 ·exact fun _ h => ⟨by omega, h.cast (by rw [putP_zero, toList_madeCells_one]; rfl)⟩
 ·intro i
  refine jc_and (fun hi => ?_)
  refine jsr ?_
  refine jy (y_lss rfl rfl) ?_
  refine jl_prop (fun h9 => ?_) (fun h9 => ?_)
  ·first
   | (exfalso; omega)
   | (
    refine jnt ?_
    refine jc_seq ?_
    refine jc_true rfl ?_
    refine jc_skip ?_
    refine jq_then ?_
    refine jc_seq ?_
    refine jc_block ?_
    refine jsr ?_
    refine jz ?_
    refine jz ?_
    refine jnt ?_
    refine jc_region ?_
    refine jz ?_
    refine jz ?_
    refine jy (y_sub_fits rfl rfl (by simp only [fits]; omega)) ?_
    refine jz ?_
    refine jz ?_
    refine jy (y_mul_fits rfl rfl (by simp only [fits]; omega)) ?_
    refine jy (y_shr rfl rfl (by omega) (by simp only [IntKind.bits]; omega)) ?_
    refine jl_as (u := .int .u64 (n / 2 ^ (8 * i))) (by congr 3) ?_
    refine jy (y_conv_u8 rfl) ?_
    refine jy (y_indexAddr_slice (off := 7 - i) rfl rfl (by omega) (by omega) (by omega)) ?_
    refine jl_w rfl rfl (w_store_row rfl rfl rfl (by rw [List.length_map, putP_length _ _ (by omega)]; omega) rep0) ?_
    refine jl_nil ?_
    refine jq_block ?_
    refine jq_then ?_
    refine jc_region ?_
    refine jy (y_add_fits rfl rfl (by simp only [fits]; omega)) ?_
    refine jz ?_
    refine jl_nil ?_
    refine jq_round (i := i) (i + 1) ?_ ?_ ?_
    ·omega
    ·exact ⟨rfl, rfl, rfl, lk_int rfl (by omega), trivial⟩
    ·exact fun _ h => ⟨by omega, h.cast (by rw [map_set, putP_set _ _ (by omega)])⟩
    )
  ·first
   | (exfalso; omega)
   | (
    refine jnt ?_
    refine jc_seq ?_
    refine jc_false rfl ?_
    refine jc_exit ?_
    refine jq_then_exit ?_
    refine jq_then_exit ?_
    refine jq_hit ?_
    refine jq_then ?_
    refine jc_seq ?_
    have hi8 : i = 8 := by omega
    subst hi8
    refine jc_region ?_
    refine jz ?_
    refine jy (y_str_own rfl mem0 (U8s.map _)) ?_
    refine jl_as (u := .string (putS n)) (by rw [putP_end]; rfl) ?_
    refine jz ?_
    refine jnt ?_
    refine jc_ret ?_
    refine jq_ret1 rfl rfl ?_
    exact fun _ hw => ⟨rfl, hw.ch⟩
    )

theorem add_any (a b : Int) (w : World) (ha : fits .u64 a) (hb : fits .u64 b) :
  Calls Try.prog 61 #[.int .u64 a, .int .u64 b] w fun e w' => e = .returned (.tuple #[.int .u64 (addV a b), .int .i64 (addE a b)]) ∧ Ch [] w w' := by
 simp only [fits] at ha hb
 refine calls_of (n := 14) (E := [(0, .int .u64 a), (1, .int .u64 b)]) (W := Hp w [] []) Try.func61 rfl rfl (Nat.le_of_ble_eq_true rfl) rfl (Hp.nil _ _) ?_
 refine jsr ?_
 refine jz ?_
 refine jz ?_
 refine jnt ?_
 refine jc_seq ?_
 refine jsr ?_
 refine jz ?_
 refine jz ?_
 refine jy (y_add_u64 rfl rfl) ?_
 refine jz ?_
 refine jy (y_lss rfl rfl) ?_
 refine jl_prop (fun h10 => ?_) (fun h10 => ?_)
 ·first
  | (exfalso; omega)
  | (
   refine jnt ?_
   refine jc_true rfl ?_
   refine jsr ?_
   refine jz ?_
   refine jz ?_
   refine jnt ?_
   refine jc_ret ?_
   refine jq_then_ret ?_
   refine jq_ret2 rfl rfl rfl ?_
   exact fun _ hw => ⟨by unfold addV addE; rw [if_pos (by omega), if_pos (by omega)], hw.ch⟩
   )
 ·first
  | (exfalso; omega)
  | (
   refine jnt ?_
   refine jc_false rfl ?_
   refine jc_skip ?_
   refine jq_then ?_
   refine jsr ?_
   refine jz ?_
   refine jz ?_
   refine jy (y_add_u64 rfl rfl) ?_
   refine jz ?_
   refine jz ?_
   refine jnt ?_
   refine jc_ret ?_
   refine jq_ret2 rfl rfl rfl ?_
   exact fun _ hw => ⟨by unfold addV addE; rw [if_neg (by omega), if_neg (by omega)]; exact congrArg (fun z => Ending.returned (.tuple #[.int .u64 z, .int .i64 0])) (Int.emod_eq_of_lt (by omega) (by omega)), hw.ch⟩
   )

theorem rtop_any (w : World) :
  Calls Try.prog 49 #[] w fun e w' => e = .returned (.int .u64 18446744073709551615) ∧ Ch [] w w' := by
 refine calls_of (n := 1) (E := []) (W := Hp w [] []) Try.func49 rfl rfl (Nat.le_of_ble_eq_true rfl) rfl (Hp.nil _ _) ?_
 refine jsr ?_
 refine jz ?_
 refine jnt ?_
 refine jsr ?_
 refine jz ?_
 refine jnt ?_
 refine jc_ret ?_
 refine jq_ret1 rfl rfl ?_
 exact fun _ hw => ⟨rfl, hw.ch⟩

end Go.Proofs.Ytghomncegjamfaa