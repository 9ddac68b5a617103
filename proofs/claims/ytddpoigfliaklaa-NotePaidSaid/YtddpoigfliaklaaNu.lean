/- The walks of packages num and turnstileref01. Written by program (walk.py) out of a table of contracts and invariants. -/
import Derived.Test.YtddpoigfliaklaaMnum
import Derived.Test.YtddpoigfliaklaaTd
import Derived.Test.YtddpoigfliaklaaJj
namespace Go.Proofs.Ytddpoigfliaklaa
open Go.RowKit
set_option maxRecDepth 100000
set_option linter.unusedVariables false
set_option linter.unusedSimpArgs false

theorem nproduct_any (a b : Int) (w : World) (ha : fits .u64 a) (hb : fits .u64 b) :
  Calls Try.prog 91 #[.int .u64 a, .int .u64 b] w fun e w' => e = .returned (.tuple #[.int .u64 (a * b / 18446744073709551616), .int .u64 (a * b % 18446744073709551616)]) ∧ Ch [] w w' := by
 simp only [fits] at ha hb
 have hp := prod_halves a b ha.1 ha.2 hb.1 hb.2
 refine calls_of (n := 50) (E := [(0, .int .u64 a), (1, .int .u64 b)]) (W := Hp w [] []) Try.func91 rfl rfl (Nat.le_of_ble_eq_true rfl) rfl (Hp.nil _ _) ?_
 refine jsr ?_
 refine jz ?_
 refine jz ?_
 refine jnt ?_
 refine jsr ?_
 refine jz ?_
 refine jy (y_shr_by (m := 4294967296) rfl rfl (by decide) (by decide) (by decide)) ?_
 refine jz ?_
 refine jy (y_and rfl rfl) ?_
 refine jl_as (congrArg _ (and_low32 _)) ?_
 refine jz ?_
 refine jy (y_shr_by (m := 4294967296) rfl rfl (by decide) (by decide) (by decide)) ?_
 refine jz ?_
 refine jy (y_and rfl rfl) ?_
 refine jl_as (congrArg _ (and_low32 _)) ?_
 refine jz ?_
 refine jz ?_
 refine jz ?_
 refine jz ?_
 refine jnt ?_
 refine jsr ?_
 refine jz ?_
 refine jz ?_
 refine jy (y_mul_u64 rfl rfl) ?_
 refine jz ?_
 refine jz ?_
 refine jy (y_mul_u64 rfl rfl) ?_
 refine jy (y_shr_by (m := 4294967296) rfl rfl (by decide) (by decide) (by decide)) ?_
 refine jy (y_add_u64 rfl rfl) ?_
 refine jl_as (u := .int .u64 (midF a b)) rfl ?_
 refine jz ?_
 refine jnt ?_
 refine jsr ?_
 refine jz ?_
 refine jz ?_
 refine jy (y_mul_u64 rfl rfl) ?_
 refine jz ?_
 refine jy (y_and rfl rfl) ?_
 refine jl_as (congrArg _ (and_low32 _)) ?_
 refine jy (y_add_u64 rfl rfl) ?_
 refine jl_as (u := .int .u64 (otherF a b)) rfl ?_
 refine jz ?_
 refine jnt ?_
 refine jsr ?_
 refine jz ?_
 refine jz ?_
 refine jy (y_mul_u64 rfl rfl) ?_
 refine jz ?_
 refine jy (y_shr_by (m := 4294967296) rfl rfl (by decide) (by decide) (by decide)) ?_
 refine jy (y_add_u64 rfl rfl) ?_
 refine jz ?_
 refine jy (y_shr_by (m := 4294967296) rfl rfl (by decide) (by decide) (by decide)) ?_
 refine jy (y_add_u64 rfl rfl) ?_
 refine jl_as (u := .int .u64 (a * b / 18446744073709551616)) (congrArg _ hp.1) ?_
 refine jz ?_
 refine jy (y_shl_by_u64 (m := 4294967296) rfl rfl (by decide) (by decide) (by decide)) ?_
 refine jz ?_
 refine jz ?_
 refine jy (y_mul_u64 rfl rfl) ?_
 refine jy (y_and rfl rfl) ?_
 refine jl_as (congrArg _ (and_low32 _)) ?_
 refine jy (y_or rfl rfl) ?_
 refine jl_as (u := .int .u64 (a * b % 18446744073709551616)) (congrArg _ ((or_half _ _ (by omega) (by omega)).trans hp.2)) ?_
 refine jz ?_
 refine jz ?_
 refine jnt ?_
 refine jc_ret ?_
 refine jq_ret2 rfl rfl rfl ?_
 exact fun _ hw => ⟨rfl, hw.ch⟩

theorem put_any (n : Int) (w : World) (hn : fits .u64 n) :
  Calls Try.prog 32 #[.int .u64 n] w fun e w' => e = .returned (.string (putS n)) ∧ Ch [] w w' := by
 simp only [fits] at hn
 refine calls_of (n := 23) (E := [(0, .int .u64 n)]) (W := Hp w [] []) Try.func32 rfl rfl (Nat.le_of_ble_eq_true rfl) rfl (Hp.nil _ _) ?_
 refine jsr ?_
 refine jz ?_
 refine jnt ?_
 refine jsr ?_
 refine jl_m rfl (by decide) rfl (m_make rfl rfl (by first | omega | decide) (by first | omega | decide)) (fun b5 => ?_)
 refine jz ?_
 refine jnt ?_
 refine jc_seq ?_
 refine jsr ?_
 refine jz ?_
 refine jy (y_len_slice rfl) ?_
 refine jz ?_
 refine jnt ?_
 refine jc_block ?_
 refine jc_loop (fun (i : Nat) => [(0, .int .u64 n), (3, .slice (some ⟨b5, 0, none⟩) 8 8), (7, .int .i64 8), (8, .int .i64 (i : Nat))]) (fun (i : Nat) => fun w' => i ≤ 8 ∧ Hp w [] [.row (some ⟨b5, 0, none⟩) (8) (8) 5 1 ((putP n i).map (.int .u8))] w') (fun (i : Nat) => 8 - i) 0 ?_ ?_ ?_
 ·exact ⟨rfl, rfl, rfl, rfl, trivial⟩
 ·exact fun _ h => ⟨by omega, h.cast (by rw [putP_zero, toList_madeCells_one]; rfl)⟩
 ·intro i
  refine jc_and (fun hi => ?_)
  refine jsr ?_
  refine jy (y_lss rfl rfl) ?_
  refine jl_prop (fun h9 => ?_) (fun h9 => ?_)
  ·first
   | (exfalso; omega)
   | (
    refine jnt ?_
    refine jc_seq ?_
    refine jc_true rfl ?_
    refine jc_skip ?_
    refine jq_then ?_
    refine jc_seq ?_
    refine jc_block ?_
    refine jsr ?_
    refine jz ?_
    refine jz ?_
    refine jnt ?_
    refine jc_region ?_
    refine jz ?_
    refine jz ?_
    refine jy (y_sub_fits rfl rfl (by simp only [fits]; omega)) ?_
    refine jz ?_
    refine jz ?_
    refine jy (y_mul_fits rfl rfl (by simp only [fits]; omega)) ?_
    refine jy (y_shr rfl rfl (by omega) (by simp only [IntKind.bits]; omega)) ?_
    refine jl_as (u := .int .u64 (n / 2 ^ (8 * i))) (by congr 3) ?_
    refine jy (y_conv_u8 rfl) ?_
    refine jy (y_indexAddr_slice (off := 7 - i) rfl rfl (by omega) (by omega) (by omega)) ?_
    refine jl_w rfl rfl (w_store_row rfl rfl rfl (by rw [List.length_map, putP_length _ _ (by omega)]; omega) rep0) ?_
    refine jl_nil ?_
    refine jq_block ?_
    refine jq_then ?_
    refine jc_region ?_
    refine jy (y_add_fits rfl rfl (by simp only [fits]; omega)) ?_
    refine jz ?_
    refine jl_nil ?_
    refine jq_round (i := i) (i + 1) ?_ ?_ ?_
    ·omega
    ·exact ⟨rfl, rfl, rfl, lk_int rfl (by omega), trivial⟩
    ·exact fun _ h => ⟨by omega, h.cast (by rw [map_set, putP_set _ _ (by omega)])⟩
    )
  ·first
   | (exfalso; omega)
   | (
    refine jnt ?_
    refine jc_seq ?_
    refine jc_false rfl ?_
    refine jc_exit ?_
    refine jq_then_exit ?_
    refine jq_then_exit ?_
    refine jq_hit ?_
    refine jq_then ?_
    refine jc_seq ?_
    have hi8 : i = 8 := by omega
    subst hi8
    refine jc_region ?_
    refine jz ?_
    refine jy (y_str_own rfl mem0 (U8s.map _)) ?_
    refine jl_as (u := .string (putS n)) (by rw [putP_end]; rfl) ?_
    refine jz ?_
    refine jnt ?_
    refine jc_ret ?_
    refine jq_ret1 rfl rfl ?_
    exact fun _ hw => ⟨rfl, hw.ch⟩
    )

theorem mul_any (a b : Int) (w : World) (ha : fits .u64 a) (hb : fits .u64 b) :
  Calls Try.prog 75 #[.int .u64 a, .int .u64 b] w fun e w' => e = .returned (.tuple #[.int .u64 (mulV a b), .int .i64 (mulE a b)]) ∧ Ch [] w w' := by
 simp only [fits] at ha hb
 have hn := prod_nonneg ha.1 hb.1
 have hn2 := prod_lt ha.1 ha.2 hb.1 hb.2
 refine calls_of (n := 17) (E := [(0, .int .u64 a), (1, .int .u64 b)]) (W := Hp w [] []) Try.func75 rfl rfl (Nat.le_of_ble_eq_true rfl) rfl (Hp.nil _ _) ?_
 refine jsr ?_
 refine jz ?_
 refine jz ?_
 refine jnt ?_
 refine jsr ?_
 refine jz ?_
 refine jz ?_
 refine jpc (goes_func rfl) (fun w1 hw1 => nproduct_any _ _ w1 (by simp only [fits] at *; omega) (by simp only [fits] at *; omega)) ?_
 refine jz ?_
 refine jz ?_
 refine jz ?_
 refine jz ?_
 refine jz ?_
 refine jnt ?_
 refine jc_seq ?_
 refine jsr ?_
 refine jz ?_
 refine jy (y_gtr rfl rfl) ?_
 refine jl_prop (fun h15 => ?_) (fun h15 => ?_)
 ·first
  | (exfalso; omega)
  | (
   refine jnt ?_
   refine jc_true rfl ?_
   refine jsr ?_
   refine jz ?_
   refine jz ?_
   refine jnt ?_
   refine jc_ret ?_
   refine jq_then_ret ?_
   refine jq_ret2 rfl rfl rfl ?_
   exact fun _ hw => ⟨by unfold mulV mulE; rw [if_pos (by omega), if_pos (by omega)], hw.ch⟩
   )
 ·first
  | (exfalso; omega)
  | (
   refine jnt ?_
   refine jc_false rfl ?_
   refine jc_skip ?_
   refine jq_then ?_
   refine jsr ?_
   refine jz ?_
   refine jz ?_
   refine jz ?_
   refine jnt ?_
   refine jc_ret ?_
   refine jq_ret2 rfl rfl rfl ?_
   exact fun _ hw => ⟨by unfold mulV mulE; rw [if_neg (by omega), if_neg (by omega)]; exact congrArg (fun z => Ending.returned (.tuple #[.int .u64 z, .int .i64 0])) (Int.emod_eq_of_lt hn (by omega)), hw.ch⟩
   )

theorem add_any (a b : Int) (w : World) (ha : fits .u64 a) (hb : fits .u64 b) :
  Calls Try.prog 57 #[.int .u64 a, .int .u64 b] w fun e w' => e = .returned (.tuple #[.int .u64 (addV a b), .int .i64 (addE a b)]) ∧ Ch [] w w' := by
 simp only [fits] at ha hb
 refine calls_of (n := 14) (E := [(0, .int .u64 a), (1, .int .u64 b)]) (W := Hp w [] []) Try.func57 rfl rfl (Nat.le_of_ble_eq_true rfl) rfl (Hp.nil _ _) ?_
 refine jsr ?_
 refine jz ?_
 refine jz ?_
 refine jnt ?_
 refine jc_seq ?_
 refine jsr ?_
 refine jz ?_
 refine jz ?_
 refine jy (y_add_u64 rfl rfl) ?_
 refine jz ?_
 refine jy (y_lss rfl rfl) ?_
 refine jl_prop (fun h10 => ?_) (fun h10 => ?_)
 ·first
  | (exfalso; omega)
  | (
   refine jnt ?_
   refine jc_true rfl ?_
   refine jsr ?_
   refine jz ?_
   refine jz ?_
   refine jnt ?_
   refine jc_ret ?_
   refine jq_then_ret ?_
   refine jq_ret2 rfl rfl rfl ?_
   exact fun _ hw => ⟨by unfold addV addE; rw [if_pos (by omega), if_pos (by omega)], hw.ch⟩
   )
 ·first
  | (exfalso; omega)
  | (
   refine jnt ?_
   refine jc_false rfl ?_
   refine jc_skip ?_
   refine jq_then ?_
   refine jsr ?_
   refine jz ?_
   refine jz ?_
   refine jy (y_add_u64 rfl rfl) ?_
   refine jz ?_
   refine jz ?_
   refine jnt ?_
   refine jc_ret ?_
   refine jq_ret2 rfl rfl rfl ?_
   exact fun _ hw => ⟨by unfold addV addE; rw [if_neg (by omega), if_neg (by omega)]; exact congrArg (fun z => Ending.returned (.tuple #[.int .u64 z, .int .i64 0])) (Int.emod_eq_of_lt (by omega) (by omega)), hw.ch⟩
   )

theorem of_any (n : Int) (w : World) (hn : fits .i64 n) :
  Calls Try.prog 74 #[.int .i64 n] w fun e w' => e = .returned (.tuple #[.int .u64 (if n < 0 then 0 else n), .int .i64 (if n < 0 then 2 else 0)]) ∧ Ch [] w w' := by
 simp only [fits] at hn
 refine calls_of (n := 8) (E := [(0, .int .i64 n)]) (W := Hp w [] []) Try.func74 rfl rfl (Nat.le_of_ble_eq_true rfl) rfl (Hp.nil _ _) ?_
 refine jsr ?_
 refine jz ?_
 refine jz ?_
 refine jnt ?_
 refine jc_seq ?_
 refine jsr ?_
 refine jz ?_
 refine jy (y_lss rfl rfl) ?_
 refine jl_prop (fun h5 => ?_) (fun h5 => ?_)
 ·first
  | (exfalso; omega)
  | (
   refine jnt ?_
   refine jc_true rfl ?_
   refine jsr ?_
   refine jz ?_
   refine jz ?_
   refine jnt ?_
   refine jc_ret ?_
   refine jq_then_ret ?_
   refine jq_ret2 rfl rfl rfl ?_
   exact fun _ hw => ⟨by rw [if_pos (by omega), if_pos (by omega)], hw.ch⟩
   )
 ·first
  | (exfalso; omega)
  | (
   refine jnt ?_
   refine jc_false rfl ?_
   refine jc_skip ?_
   refine jq_then ?_
   refine jsr ?_
   refine jz ?_
   first | refine jy (y_conv_fits rfl (by simp only [fits]; omega)) ?_ | refine jy (y_conv_u64 rfl) ?_
   refine jz ?_
   refine jz ?_
   refine jnt ?_
   refine jc_ret ?_
   refine jq_ret2 rfl rfl rfl ?_
   exact fun _ hw => ⟨by rw [if_neg (by omega), if_neg (by omega)], hw.ch⟩
   )

end Go.Proofs.Ytddpoigfliaklaa