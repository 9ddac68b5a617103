/- The walks of packages num and turnstileref01. Written by program (walk.py) out of a table of contracts and invariants. -/
import Derived.Test.YtomhcibbalhgkaaGreatMnum
import Derived.Test.YtomhcibbalhgkaaGreatTd
import Derived.Test.YtomhcibbalhgkaaGreatJj
namespace Go.Proofs.YtomhcibbalhgkaaGreat
open Go.RowKit
set_option maxRecDepth 100000
set_option linter.unusedVariables false
set_option linter.unusedSimpArgs false

theorem put_any (n : Int) (w : World) (hn : fits .u64 n) :
  Calls Tryz.prog 28 #[.int .u64 n] w fun e w' => e = .returned (.string (putS n)) ∧ Ch [] w w' := by
 simp only [fits] at hn
 refine calls_of (n := 23) (E := [(0, .int .u64 n)]) (W := Hp w [] []) Tryz.func28 rfl rfl (Nat.le_of_ble_eq_true rfl) rfl (Hp.nil _ _) ?_
 refine jsr ?_
 refine jz ?_
 refine jnt ?_
 refine jsr ?_
 refine jl_m rfl (by decide) rfl (m_make rfl rfl (by first | omega | decide) (by first | omega | decide)) (fun b5 => ?_)
 refine jz ?_
 refine jnt ?_
 refine jc_seq ?_
 refine jsr ?_
 refine jz ?_
 refine jy (y_len_slice rfl) ?_
 refine jz ?_
 refine jnt ?_
 refine jc_block ?_
 refine jc_loop (fun (i : Nat) => [(0, .int .u64 n), (3, .slice (some ⟨b5, 0, none⟩) 8 8), (7, .int .i64 8), (8, .int .i64 (i : Nat))]) (fun (i : Nat) => fun w' => i ≤ 8 ∧ Hp w [] [.row (some ⟨b5, 0, none⟩) (8) (8) 5 1 ((putP n i).map (.int .u8))] w') (fun (i : Nat) => 8 - i) 0 ?_ ?_ ?_
 ·exact ⟨rfl, rfl, rfl, rfl, trivial⟩
 ·exact fun _ h => ⟨by omega, h.cast (by rw [putP_zero, toList_madeCells_one]; rfl)⟩
 ·intro i
  refine jc_and (fun hi => ?_)
  refine jsr ?_
  refine jy (y_lss rfl rfl) ?_
  refine jl_prop (fun h9 => ?_) (fun h9 => ?_)
  ·first
   | (exfalso; omega)
   | (
    refine jnt ?_
    refine jc_seq ?_
    refine jc_true rfl ?_
    refine jc_skip ?_
    refine jq_then ?_
    refine jc_seq ?_
    refine jc_block ?_
    refine jsr ?_
    refine jz ?_
    refine jz ?_
    refine jnt ?_
    refine jc_region ?_
    refine jz ?_
    refine jz ?_
    refine jy (y_sub_fits rfl rfl (by simp only [fits]; omega)) ?_
    refine jz ?_
    refine jz ?_
    refine jy (y_mul_fits rfl rfl (by simp only [fits]; omega)) ?_
    refine jy (y_shr rfl rfl (by omega) (by simp only [IntKind.bits]; omega)) ?_
    refine jl_as (u := .int .u64 (n / 2 ^ (8 * i))) (by congr 3) ?_
    refine jy (y_conv_u8 rfl) ?_
    refine jy (y_indexAddr_slice (off := 7 - i) rfl rfl (by omega) (by omega) (by omega)) ?_
    refine jl_w rfl rfl (w_store_row rfl rfl rfl (by rw [List.length_map, putP_length _ _ (by omega)]; omega) rep0) ?_
    refine jl_nil ?_
    refine jq_block ?_
    refine jq_then ?_
    refine jc_region ?_
    refine jy (y_add_fits rfl rfl (by simp only [fits]; omega)) ?_
    refine jz ?_
    refine jl_nil ?_
    refine jq_round (i := i) (i + 1) ?_ ?_ ?_
    ·omega
    ·exact ⟨rfl, rfl, rfl, lk_int rfl (by omega), trivial⟩
    ·exact fun _ h => ⟨by omega, h.cast (by rw [map_set, putP_set _ _ (by omega)])⟩
    )
  ·first
   | (exfalso; omega)
   | (
    refine jnt ?_
    refine jc_seq ?_
    refine jc_false rfl ?_
    refine jc_exit ?_
    refine jq_then_exit ?_
    refine jq_then_exit ?_
    refine jq_hit ?_
    refine jq_then ?_
    refine jc_seq ?_
    have hi8 : i = 8 := by omega
    subst hi8
    refine jc_region ?_
    refine jz ?_
    refine jy (y_str_own rfl mem0 (U8s.map _)) ?_
    refine jl_as (u := .string (putS n)) (by rw [putP_end]; rfl) ?_
    refine jz ?_
    refine jnt ?_
    refine jc_ret ?_
    refine jq_ret1 rfl rfl ?_
    exact fun _ hw => ⟨rfl, hw.ch⟩
    )

theorem of_any (n : Int) (w : World) (hn : fits .i64 n) :
  Calls Tryz.prog 65 #[.int .i64 n] w fun e w' => e = .returned (.tuple #[.int .u64 (if n < 0 then 0 else n), .int .i64 (if n < 0 then 2 else 0)]) ∧ Ch [] w w' := by
 simp only [fits] at hn
 refine calls_of (n := 8) (E := [(0, .int .i64 n)]) (W := Hp w [] []) Tryz.func65 rfl rfl (Nat.le_of_ble_eq_true rfl) rfl (Hp.nil _ _) ?_
 refine jsr ?_
 refine jz ?_
 refine jz ?_
 refine jnt ?_
 refine jc_seq ?_
 refine jsr ?_
 refine jz ?_
 refine jy (y_lss rfl rfl) ?_
 refine jl_prop (fun h5 => ?_) (fun h5 => ?_)
 ·first
  | (exfalso; omega)
  | (
   refine jnt ?_
   refine jc_true rfl ?_
   refine jsr ?_
   refine jz ?_
   refine jz ?_
   refine jnt ?_
   refine jc_ret ?_
   refine jq_then_ret ?_
   refine jq_ret2 rfl rfl rfl ?_
   exact fun _ hw => ⟨by rw [if_pos (by omega), if_pos (by omega)], hw.ch⟩
   )
 ·first
  | (exfalso; omega)
  | (
   refine jnt ?_
   refine jc_false rfl ?_
   refine jc_skip ?_
   refine jq_then ?_
   refine jsr ?_
   refine jz ?_
   first | refine jy (y_conv_fits rfl (by simp only [fits]; omega)) ?_ | refine jy (y_conv_u64 rfl) ?_
   refine jz ?_
   refine jz ?_
   refine jnt ?_
   refine jc_ret ?_
   refine jq_ret2 rfl rfl rfl ?_
   exact fun _ hw => ⟨by rw [if_neg (by omega), if_neg (by omega)], hw.ch⟩
   )

theorem rput_any (n : Int) (w : World) (hn : fits .u64 n) :
  Calls Tryz.prog 34 #[.int .u64 n] w fun e w' => e = .returned (.string (putS n)) ∧ Ch [] w w' := by
 simp only [fits] at hn
 refine calls_of (n := 19) (E := [(0, .int .u64 n)]) (W := Hp w [] []) Tryz.func34 rfl rfl (Nat.le_of_ble_eq_true rfl) rfl (Hp.nil _ _) ?_
 refine jsr ?_
 refine jz ?_
 refine jnt ?_
 refine jsr ?_
 refine jz ?_
 refine jnt ?_
 refine jc_seq ?_
 refine jsr ?_
 refine jz ?_
 refine jnt ?_
 refine jc_block ?_
 refine jc_loop (fun (i : Nat) => [(0, .int .u64 (n / 2 ^ (8 * i))), (3, .string (putT n i)), (4, .int .i64 (i : Nat))]) (fun (i : Nat) => fun w' => i ≤ 8 ∧ Hp w [] [] w') (fun (i : Nat) => 8 - i) 0 ?_ ?_ ?_
 ·exact ⟨lk_int rfl (by simp), rfl, rfl, trivial⟩
 ·exact fun _ h => ⟨by omega, h⟩
 ·intro i
  refine jc_and (fun hi => ?_)
  have hp0 : (0 : Int) ≤ n / 2 ^ (8 * i) := Int.ediv_nonneg hn.1 (Int.le_of_lt (Int.pow_pos (by decide)))
  have hp1 : n / 2 ^ (8 * i) ≤ n := Int.ediv_le_self _ hn.1
  refine jc_seq ?_
  refine jsr ?_
  refine jz ?_
  refine jy (y_lss rfl rfl) ?_
  refine jl_prop (fun h6 => ?_) (fun h6 => ?_)
  ·first
   | (exfalso; omega)
   | (
    refine jnt ?_
    refine jc_true rfl ?_
    refine jc_skip ?_
    refine jq_then ?_
    refine jc_seq ?_
    refine jc_block ?_
    refine jsr ?_
    refine jz ?_
    refine jy (y_rem rfl rfl (by omega) (by omega)) ?_
    refine jy (y_conv_fits rfl (by simp only [fits]; omega)) ?_
    refine jl_m rfl (by decide) rfl (m_buildSlice (by decide) (Built.cell rfl rfl rfl (by repeat constructor) Built.nil)) (fun b12 => ?_)
    refine jy (y_str_own rfl (by first | exact mem0 | exact mem1 | exact mem2 | exact mem3 | exact mem4 | exact mem5) (by repeat constructor)) ?_
    refine jz ?_
    refine jy (y_concat rfl rfl (by rw [strOfNums_size, putT_size _ _ (by omega)]; simp only [List.length_cons, List.length_nil]; omega)) ?_
    refine jl_as (u := .string (putT n (i + 1))) (congrArg Value.string (putT_next n i (by omega)).symm) ?_
    refine jz ?_
    refine jnt ?_
    refine jc_region ?_
    refine jz ?_
    refine jy (y_quo rfl rfl (by omega) (by omega) (by simp only [fits]; omega)) ?_
    refine jl_as (congrArg _ (div_pow256 n i)) ?_
    refine jz ?_
    refine jl_nil ?_
    refine jq_block ?_
    refine jq_then ?_
    refine jc_region ?_
    refine jz ?_
    refine jy (y_add_fits rfl rfl (by simp only [fits]; omega)) ?_
    refine jz ?_
    refine jl_nil ?_
    refine jq_round (i := i) (i + 1) ?_ ?_ ?_
    ·omega
    ·exact ⟨rfl, rfl, lk_int rfl (by omega), trivial⟩
    ·exact fun _ h => ⟨by omega, h.part .nil⟩
    )
  ·first
   | (exfalso; omega)
   | (
    refine jnt ?_
    refine jc_false rfl ?_
    refine jc_exit ?_
    refine jq_then_exit ?_
    refine jq_then_exit ?_
    refine jq_hit ?_
    refine jq_then ?_
    refine jc_seq ?_
    have hi8 : i = 8 := by omega
    subst hi8
    refine jc_region ?_
    refine jz ?_
    refine jz ?_
    refine jnt ?_
    refine jc_ret ?_
    refine jq_ret1 rfl rfl ?_
    exact fun _ hw => ⟨rfl, hw.ch⟩
    )

end Go.Proofs.YtomhcibbalhgkaaGreat