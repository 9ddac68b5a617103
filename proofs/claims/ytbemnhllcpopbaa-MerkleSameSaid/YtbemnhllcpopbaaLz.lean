/- The walks of two more laws of layer 7. Written by program (walk.py) out of a table of contracts and invariants. -/
import Derived.Test.YtbemnhllcpopbaaLy
namespace Go.Proofs.Ytbemnhllcpopbaa
open Go.RowKit
set_option maxRecDepth 100000
set_option linter.unusedVariables false
set_option linter.unusedSimpArgs false

theorem merkleOnce_ok (seed : ByteArray) (tall : Int) (ad : Option Addr) (c : Nat) (xs : List Int) (w : World) (ht : fits .u8 tall) (hfx : ∀ x ∈ xs, fits .i64 x) (hxs : IntsO w [] ad .i64 xs) :
    Calls Try.prog 7 #[.string seed, .int .u8 tall, .slice ad xs.length c] w fun e w' => e = .returned (.bool true) ∧ Ch [] w w' := by
  simp only [fits] at ht
  have hcs := cutS_size seed 100
  obtain ⟨h, hh⟩ : ∃ h : Nat, (h : Int) = tall % 4 := ⟨(tall % 4).toNat, by omega⟩
  have hh3 : h ≤ 3 := by omega
  have hp16 := pow_le16 (h := h) (by omega)
  refine calls_of (n := 188) (E := [(0, .string seed), (1, .int .u8 tall), (2, .slice ad xs.length c)]) (W := Hp w [] []) Try.func7 rfl rfl (Nat.le_of_ble_eq_true rfl) rfl (Hp.nil _ _) ?_
  refine jc_seq ?_
  -- region 0
  refine jc_region ?_
  refine jl_y rfl (by decide) rfl (y_assign rfl) ?_
  refine jl_nil ?_
  refine jq_then ?_
  refine jc_seq ?_
  -- region 1
  refine jc_region ?_
  refine jl_y rfl (by decide) rfl (y_move rfl) ?_
  refine jl_y rfl (by decide) rfl (y_move rfl) ?_
  refine jl_y rfl (by decide) rfl (y_len_str rfl) ?_
  refine jl_y rfl (by decide) rfl (y_min rfl rfl) ?_
  refine jl_y rfl (by decide) rfl (y_substr_hi rfl rfl (by omega) (by omega)) ?_
  refine jl_as (congrArg Value.string (cut_eq _ 100)) ?_
  refine jl_y rfl (by decide) rfl (y_assign rfl) ?_
  refine jl_nil ?_
  refine jq_then ?_
  refine jc_seq ?_
  -- region 2
  refine jc_region ?_
  refine jl_y rfl (by decide) rfl (y_move rfl) ?_
  first | refine jl_y rfl (by decide) rfl (y_conv_fits rfl (by simp only [fits]; omega)) ?_
  refine jl_y rfl (by decide) rfl (y_rem rfl rfl (by omega) (by omega)) ?_
  refine jl_as (u := .int .i64 ((h : Nat) : Int)) (congrArg (Value.int .i64) hh.symm) ?_
  refine jl_y rfl (by decide) rfl (y_assign rfl) ?_
  refine jl_nil ?_
  refine jq_then ?_
  refine jc_seq ?_
  -- region 3
  refine jc_region ?_
  refine jl_y rfl (by decide) rfl (y_move rfl) ?_
  refine jl_y rfl (by decide) rfl (y_move rfl) ?_
  refine jl_ncall rfl (by decide) rfl (goes_func rfl) (fun w1 hw1 => mnew_ok ((cutS seed 100)) (h) w1 (by omega) (by omega)) (fun _ => rfl) (by first | (intro A hA; cases hA; done) | intro A hA k hk; simp only [List.mem_cons, List.not_mem_nil, or_false] at hA; first | (rcases hA with rfl | rfl | rfl <;> (cases hk; simp)) | (rcases hA with rfl | rfl <;> (cases hk; simp)) | (subst hA; cases hk; simp)) (fun bk wpk wk hpk hnk hfk => ?_)
  have hallk := hnk.hp (hpk)
  replace hxs := hxs.grow hpk hnk rfl
  have hkk := hfk [] (hpk.feet_lt (by intro k hk; first | (cases hk; done) | (simp only [List.mem_cons, List.not_mem_nil, or_false] at hk; subst hk; exact ⟨_, mem0, rfl⟩)))
  refine jl_y rfl (by decide) rfl (y_move rfl) ?_
  refine jl_y rfl (by decide) rfl (y_extract rfl rfl) ?_
  refine jl_y rfl (by decide) rfl (y_extract rfl rfl) ?_
  refine jl_y rfl (by decide) rfl (y_assign rfl) ?_
  refine jl_y rfl (by decide) rfl (y_assign rfl) ?_
  refine jl_nil ?_
  refine jq_then ?_
  refine jc_seq ?_
  refine jc_seq ?_
  -- region 4
  refine jc_region ?_
  refine jl_y rfl (by decide) rfl (y_move rfl) ?_
  refine jl_y rfl (by decide) rfl (y_eql_nil rfl rfl) ?_
  refine jl_as (u := .bool false) rfl ?_
  refine jl_y rfl (by decide) rfl (y_move rfl) ?_
  refine jl_y rfl (by decide) rfl (y_move rfl) ?_
  refine jl_y rfl (by decide) rfl (y_neq rfl rfl) ?_
  refine jl_prop (fun h39 => ?_) (fun h39 => ?_)
  · first
    | (exfalso; omega)
    | (
      refine jl_y rfl (by decide) rfl (y_pick_false rfl rfl) ?_
      refine jl_nil ?_
      refine jq_then ?_
      refine jc_true rfl ?_
      refine jc_seq ?_
      -- region 5
      refine jc_region ?_
      refine jl_y rfl (by decide) rfl (y_assign rfl) ?_
      refine jl_nil ?_
      refine jq_then ?_
      refine jc_ret ?_
      refine jq_then_ret ?_
      refine jq_ret1 rfl rfl ?_
      exact fun _ hw => ⟨rfl, (hallk.next hw (by repeat first | exact ⟨_, mem0, rfl⟩ | exact ⟨_, mem1, rfl⟩ | exact ⟨_, mem2, rfl⟩ | refine List.forall_mem_cons.2 ⟨?_, ?_⟩ | exact fun _ h => absurd h List.not_mem_nil)).ch⟩
      )
  · first
    | (exfalso; omega)
    | (
      refine jl_y rfl (by decide) rfl (y_pick_false rfl rfl) ?_
      refine jl_nil ?_
      refine jq_then ?_
      refine jc_false rfl ?_
      refine jc_skip ?_
      refine jq_then ?_
      refine jc_seq ?_
      -- region 6
      refine jc_region ?_
      refine jl_y rfl (by decide) rfl (y_move rfl) ?_
      refine jl_y rfl (by decide) rfl (y_shl_fits (p := 1) (q := ((h : Nat) : Int)) rfl rfl (by omega) (by simp only [IntKind.bits]; omega) (by rw [pow_two]; simp only [fits]; omega)) ?_
      refine jl_as (u := .int .i64 ((2 ^ h : Nat) : Int)) (congrArg _ pow_two) ?_
      refine jl_y rfl (by decide) rfl (y_assign rfl) ?_
      refine jl_y rfl (by decide) rfl (y_assign rfl) ?_
      refine jl_nil ?_
      refine jq_then ?_
      refine jc_seq ?_
      refine jc_seq ?_
      -- region 7
      refine jc_region ?_
      refine jl_y rfl (by decide) rfl (y_assign rfl) ?_
      refine jl_nil ?_
      refine jq_then ?_
      refine jc_block ?_
      -- a loop
      refine jc_loop3 (fun (i : Nat) (n : Nat) (l : Int) => [(2, .slice ad xs.length c), (8, .pointer (some ⟨bk.1, 0, none⟩)), (10, .int .i64 ((2 ^ h : Nat) : Int)), (11, .int .i64 l), (12, .int .i64 (i : Nat))]) (fun (i : Nat) (n : Nat) (l : Int) => fun w' => (i ≤ 12 ∧ n ≤ 2 ^ h ∧ -1 ≤ l ∧ l < n) ∧ Hp wk [bk.2] [.cells bk.2 [.int .i64 ((n : Nat) : Int), .int .i64 ((2 ^ h : Nat) : Int)]] w') (fun (i : Nat) (n : Nat) (l : Int) => 12 - i) 0 0 (-1) ?_ ?_ ?_
      · exact ⟨rfl, rfl, rfl, rfl, rfl, trivial⟩
      · exact fun _ h => ⟨by omega, h⟩
      · intro i n l
        refine jc_and (fun hi => ?_)
        refine jc_seq ?_
        refine jc_seq ?_
        -- region 8
        refine jc_region ?_
        refine jl_y rfl (by decide) rfl (y_move rfl) ?_
        refine jl_y rfl (by decide) rfl (y_move rfl) ?_
        refine jl_y rfl (by decide) rfl (y_len_slice rfl) ?_
        refine jl_y rfl (by decide) rfl (y_lss rfl rfl) ?_
        refine jl_prop (fun h46 => ?_) (fun h46 => ?_)
        · first
          | (exfalso; omega)
          | (
            refine jl_y rfl (by decide) rfl (y_move rfl) ?_
            refine jl_y rfl (by decide) rfl (y_move rfl) ?_
            refine jl_y rfl (by decide) rfl (y_lss rfl rfl) ?_
            refine jl_prop (fun h49 => ?_) (fun h49 => ?_)
            · first
              | (exfalso; omega)
              | (
                obtain ⟨bb, oo, ea, hc⟩ := hxs.1 i (show i < xs.length by omega)
                have hbo := hxs.2 bb oo ea (fun h0 => by have h1 : xs.length = 0 := (by rw [h0]; rfl); omega)
                subst ea
                have hxm : fits .i64 (xs[i]'(by omega)) := hfx _ (List.getElem_mem _)
                generalize xs[i]'(by omega) = x at hc hxm
                have hxd := tdiv3_fits hxm
                have hbr := br_cases n ((2 ^ h : Nat) : Int) (x.tdiv 3)
                refine jl_y rfl (by decide) rfl (y_pick_true rfl rfl) ?_
                refine jl_nil ?_
                refine jq_then ?_
                refine jc_true rfl ?_
                refine jc_skip ?_
                refine jq_then ?_
                refine jc_seq ?_
                refine jc_block ?_
                refine jc_seq ?_
                -- region 10
                refine jc_region ?_
                refine jl_y rfl (by decide) rfl (y_move rfl) ?_
                first | refine jl_y rfl (by decide) rfl (y_nilCheck rfl) ?_ | refine jl_y rfl (by decide) rfl (y_nilCheck_func rfl) ?_
                refine jl_y rfl (by decide) rfl (y_fieldAddr rfl) ?_
                refine jl_y rfl (by decide) rfl (y_load_old rfl hkk.2.1 hkk.1) ?_
                refine jl_pcall rfl (by decide) rfl (goes_func rfl) (fun w1 hw1 => pcall hw1 (cnext_any bk.2 ((n : Nat) : Int) w1 (CellAt.of_cells (hw1.get (A := .cells bk.2 [.int .i64 ((n : Nat) : Int), .int .i64 ((2 ^ h : Nat) : Int)]) mem0) rfl))) ?_
                refine jl_y rfl (by decide) rfl (y_assign rfl) ?_
                refine jl_nil ?_
                refine jq_then ?_
                refine jc_seq ?_
                refine jc_seq ?_
                -- region 11
                refine jc_region ?_
                refine jl_y rfl (by decide) rfl (y_move rfl) ?_
                refine jl_y rfl (by decide) rfl (y_move rfl) ?_
                refine jl_y rfl (by decide) rfl (y_indexAddr_slice (off := oo + i) rfl rfl (by omega) (by omega) (by omega)) ?_
                refine jl_y rfl (by decide) rfl (y_load_old rfl hc hbo) ?_
                refine jl_y rfl (by decide) rfl (y_trem rfl rfl (by decide)) ?_
                refine jl_y rfl (by decide) rfl (y_eql rfl rfl) ?_
                refine jl_prop (fun h63 => ?_) (fun h63 => ?_)
                · first
                  | (exfalso; omega)
                  | (
                    refine jl_nil ?_
                    refine jq_then ?_
                    refine jc_true rfl ?_
                    refine jc_seq ?_
                    -- region 12
                    obtain ⟨b, hb⟩ : ∃ b, x.tdiv 3 = b := ⟨_, rfl⟩
                    rw [hb] at hbr
                    refine jc_region ?_
                    refine jl_y rfl (by decide) rfl (y_move rfl) ?_
                    refine jl_y rfl (by decide) rfl (y_move rfl) ?_
                    refine jl_y rfl (by decide) rfl (y_indexAddr_slice (off := oo + i) rfl rfl (by omega) (by omega) (by omega)) ?_
                    refine jl_y rfl (by decide) rfl (y_load_old rfl hc hbo) ?_
                    refine jl_y rfl (by decide) rfl (y_tquo rfl rfl (by decide) hxd) ?_
                    refine jl_as (u := .int .i64 b) (congrArg (Value.int .i64) hb) ?_
                    refine jl_y rfl (by decide) rfl (y_assign rfl) ?_
                    refine jl_nil ?_
                    refine jq_then ?_
                    refine jc_seq ?_
                    -- region 13
                    refine jc_region ?_
                    refine jl_y rfl (by decide) rfl (y_move rfl) ?_
                    first | refine jl_y rfl (by decide) rfl (y_nilCheck rfl) ?_ | refine jl_y rfl (by decide) rfl (y_nilCheck_func rfl) ?_
                    refine jl_y rfl (by decide) rfl (y_fieldAddr rfl) ?_
                    refine jl_y rfl (by decide) rfl (y_load_old rfl hkk.2.1 hkk.1) ?_
                    refine jl_y rfl (by decide) rfl (y_move rfl) ?_
                    refine jl_ucallH rfl (by decide) rfl (goes_func rfl) (by rfl) (fun w1 hw1 => burn_all bk.2 ((n : Nat) : Int) ((2 ^ h : Nat) : Int) b w1 (hw1.get mem0)) (by first | exact rep0 | exact rep1 | exact rep2 | exact rep3 | exact rep4) ?_
                    refine jl_y rfl (by decide) rfl (y_assign rfl) ?_
                    refine jl_nil ?_
                    refine jq_then ?_
                    refine jc_seq ?_
                    refine jc_seq ?_
                    -- region 14
                    refine jc_region ?_
                    refine jl_y rfl (by decide) rfl (y_move rfl) ?_
                    refine jl_y rfl (by decide) rfl (y_eql rfl rfl) ?_
                    refine jl_prop (fun h76 => ?_) (fun h76 => ?_)
                    · first
                      | (exfalso; omega)
                      | (
                        refine jl_y rfl (by decide) rfl (y_move rfl) ?_
                        refine jl_y rfl (by decide) rfl (y_geq rfl rfl) ?_
                        refine jl_prop (fun h78 => ?_) (fun h78 => ?_)
                        · first
                          | (exfalso; omega)
                          | (
                            refine jl_y rfl (by decide) rfl (y_move rfl) ?_
                            refine jl_y rfl (by decide) rfl (y_move rfl) ?_
                            refine jl_y rfl (by decide) rfl (y_move rfl) ?_
                            refine jl_y rfl (by decide) rfl (y_leq rfl rfl) ?_
                            refine jl_prop (fun h82 => ?_) (fun h82 => ?_)
                            · first
                              | (exfalso; omega)
                              | (
                                refine jl_y rfl (by decide) rfl (y_pick_true rfl rfl) ?_
                                refine jl_y rfl (by decide) rfl (y_neq_bool rfl rfl) ?_
                                refine jl_as (u := .bool false) rfl ?_
                                refine jl_y rfl (by decide) rfl (y_move rfl) ?_
                                refine jl_y rfl (by decide) rfl (y_move rfl) ?_
                                refine jl_y rfl (by decide) rfl (y_eql rfl rfl) ?_
                                refine jl_prop (fun h87 => ?_) (fun h87 => ?_)
                                · first
                                  | (exfalso; omega)
                                  | (
                                    refine jl_y rfl (by decide) rfl (y_move rfl) ?_
                                    refine jl_y rfl (by decide) rfl (y_move rfl) ?_
                                    first | refine jl_y rfl (by decide) rfl (y_nilCheck rfl) ?_ | refine jl_y rfl (by decide) rfl (y_nilCheck_func rfl) ?_
                                    refine jl_y rfl (by decide) rfl (y_fieldAddr rfl) ?_
                                    refine jl_y rfl (by decide) rfl (y_load_old rfl hkk.2.1 hkk.1) ?_
                                    refine jl_pcall rfl (by decide) rfl (goes_func rfl) (fun w1 hw1 => pcall hw1 (cnext_any bk.2 (brN n ((2 ^ h : Nat) : Int) b) w1 (CellAt.of_cells (hw1.get (A := .cells bk.2 [.int .i64 (brN n ((2 ^ h : Nat) : Int) b), .int .i64 ((2 ^ h : Nat) : Int)]) mem0) rfl))) ?_
                                    refine jl_y rfl (by decide) rfl (y_move rfl) ?_
                                    refine jl_y rfl (by decide) rfl (y_move rfl) ?_
                                    refine jl_y rfl (by decide) rfl (y_max rfl rfl) ?_
                                    refine jl_y rfl (by decide) rfl (y_neq rfl rfl) ?_
                                    refine jl_prop (fun h97 => ?_) (fun h97 => ?_)
                                    · first
                                      | (exfalso; omega)
                                      | (
                                        refine jl_y rfl (by decide) rfl (y_pick_true rfl rfl) ?_
                                        refine jl_y rfl (by decide) rfl (y_pick_false rfl rfl) ?_
                                        refine jl_y rfl (by decide) rfl (y_move rfl) ?_
                                        refine jl_skip rfl (by decide) rfl ?_
                                        refine jl_skip rfl (by decide) rfl ?_
                                        refine jl_skip rfl (by decide) rfl ?_
                                        refine jl_skip rfl (by decide) rfl ?_
                                        refine jl_skip rfl (by decide) rfl ?_
                                        refine jl_skip rfl (by decide) rfl ?_
                                        refine jl_skip rfl (by decide) rfl ?_
                                        refine jl_skip rfl (by decide) rfl ?_
                                        refine jl_skip rfl (by decide) rfl ?_
                                        refine jl_skip rfl (by decide) rfl ?_
                                        refine jl_skip rfl (by decide) rfl ?_
                                        refine jl_y rfl (by decide) rfl (y_pick_true rfl rfl) ?_
                                        refine jl_nil ?_
                                        refine jq_then ?_
                                        refine jc_true rfl ?_
                                        refine jc_seq ?_
                                        -- region 15
                                        refine jc_region ?_
                                        refine jl_y rfl (by decide) rfl (y_assign rfl) ?_
                                        refine jl_nil ?_
                                        refine jq_then ?_
                                        refine jc_ret ?_
                                        refine jq_then_ret ?_
                                        refine jq_then_ret ?_
                                        refine jq_block_ret ?_
                                        refine jq_then_ret ?_
                                        refine jq_then_ret ?_
                                        refine jq_block_ret ?_
                                        refine jq_then_ret ?_
                                        refine jq_ret1 rfl rfl ?_
                                        exact fun _ hw => ⟨rfl, (hallk.next hw (by repeat first | exact ⟨_, mem0, rfl⟩ | exact ⟨_, mem1, rfl⟩ | exact ⟨_, mem2, rfl⟩ | refine List.forall_mem_cons.2 ⟨?_, ?_⟩ | exact fun _ h => absurd h List.not_mem_nil)).ch⟩
                                        )
                                    · first
                                      | (exfalso; omega)
                                      | (
                                        refine jl_y rfl (by decide) rfl (y_pick_true rfl rfl) ?_
                                        refine jl_y rfl (by decide) rfl (y_pick_false rfl rfl) ?_
                                        refine jl_y rfl (by decide) rfl (y_move rfl) ?_
                                        refine jl_y rfl (by decide) rfl (y_move rfl) ?_
                                        refine jl_y rfl (by decide) rfl (y_neq rfl rfl) ?_
                                        refine jl_prop (fun h102 => ?_) (fun h102 => ?_)
                                        · first
                                          | (exfalso; omega)
                                          | (
                                            refine jl_y rfl (by decide) rfl (y_move rfl) ?_
                                            refine jl_y rfl (by decide) rfl (y_move rfl) ?_
                                            first | refine jl_y rfl (by decide) rfl (y_nilCheck rfl) ?_ | refine jl_y rfl (by decide) rfl (y_nilCheck_func rfl) ?_
                                            refine jl_y rfl (by decide) rfl (y_fieldAddr rfl) ?_
                                            refine jl_y rfl (by decide) rfl (y_load_old rfl hkk.2.1 hkk.1) ?_
                                            refine jl_pcall rfl (by decide) rfl (goes_func rfl) (fun w1 hw1 => pcall hw1 (cnext_any bk.2 (brN n ((2 ^ h : Nat) : Int) b) w1 (CellAt.of_cells (hw1.get (A := .cells bk.2 [.int .i64 (brN n ((2 ^ h : Nat) : Int) b), .int .i64 ((2 ^ h : Nat) : Int)]) mem0) rfl))) ?_
                                            refine jl_y rfl (by decide) rfl (y_move rfl) ?_
                                            refine jl_y rfl (by decide) rfl (y_neq rfl rfl) ?_
                                            refine jl_prop (fun h110 => ?_) (fun h110 => ?_)
                                            · first
                                              | (exfalso; omega)
                                              | (
                                                refine jl_y rfl (by decide) rfl (y_pick_true rfl rfl) ?_
                                                refine jl_y rfl (by decide) rfl (y_pick_false rfl rfl) ?_
                                                refine jl_nil ?_
                                                refine jq_then ?_
                                                refine jc_true rfl ?_
                                                refine jc_seq ?_
                                                -- region 15
                                                refine jc_region ?_
                                                refine jl_y rfl (by decide) rfl (y_assign rfl) ?_
                                                refine jl_nil ?_
                                                refine jq_then ?_
                                                refine jc_ret ?_
                                                refine jq_then_ret ?_
                                                refine jq_then_ret ?_
                                                refine jq_block_ret ?_
                                                refine jq_then_ret ?_
                                                refine jq_then_ret ?_
                                                refine jq_block_ret ?_
                                                refine jq_then_ret ?_
                                                refine jq_ret1 rfl rfl ?_
                                                exact fun _ hw => ⟨rfl, (hallk.next hw (by repeat first | exact ⟨_, mem0, rfl⟩ | exact ⟨_, mem1, rfl⟩ | exact ⟨_, mem2, rfl⟩ | refine List.forall_mem_cons.2 ⟨?_, ?_⟩ | exact fun _ h => absurd h List.not_mem_nil)).ch⟩
                                                )
                                            · first
                                              | (exfalso; omega)
                                              | (
                                                refine jl_y rfl (by decide) rfl (y_pick_true rfl rfl) ?_
                                                refine jl_y rfl (by decide) rfl (y_pick_false rfl rfl) ?_
                                                refine jl_nil ?_
                                                refine jq_then ?_
                                                refine jc_false rfl ?_
                                                refine jc_skip ?_
                                                refine jq_then ?_
                                                refine jc_exit ?_
                                                refine jq_then_exit ?_
                                                refine jq_hit ?_
                                                refine jq_then ?_
                                                -- region 9
                                                refine jc_region ?_
                                                refine jl_y rfl (by decide) rfl (y_move rfl) ?_
                                                refine jl_y rfl (by decide) rfl (y_add_fits rfl rfl (by simp only [fits]; omega)) ?_
                                                refine jl_y rfl (by decide) rfl (y_assign rfl) ?_
                                                refine jl_nil ?_
                                                refine jq_round3 (i := i) (j := n) (l := l) (i + 1) (brN n ((2 ^ h : Nat) : Int) b).toNat l ?_ ?_ ?_
                                                · omega
                                                · exact ⟨rfl, rfl, rfl, rfl, lk_int rfl (by omega), trivial⟩
                                                · exact fun _ h2 => ⟨by omega, h2.cast (by rw [show (((brN n ((2 ^ h : Nat) : Int) b).toNat : Nat) : Int) = brN n ((2 ^ h : Nat) : Int) b by omega])⟩
                                                )
                                            )
                                        · first
                                          | (exfalso; omega)
                                          | (
                                            refine jl_y rfl (by decide) rfl (y_move rfl) ?_
                                            refine jl_skip rfl (by decide) rfl ?_
                                            refine jl_skip rfl (by decide) rfl ?_
                                            refine jl_skip rfl (by decide) rfl ?_
                                            refine jl_skip rfl (by decide) rfl ?_
                                            refine jl_skip rfl (by decide) rfl ?_
                                            refine jl_skip rfl (by decide) rfl ?_
                                            refine jl_skip rfl (by decide) rfl ?_
                                            refine jl_y rfl (by decide) rfl (y_pick_false rfl rfl) ?_
                                            refine jl_y rfl (by decide) rfl (y_pick_false rfl rfl) ?_
                                            refine jl_nil ?_
                                            refine jq_then ?_
                                            refine jc_false rfl ?_
                                            refine jc_skip ?_
                                            refine jq_then ?_
                                            refine jc_exit ?_
                                            refine jq_then_exit ?_
                                            refine jq_hit ?_
                                            refine jq_then ?_
                                            -- region 9
                                            refine jc_region ?_
                                            refine jl_y rfl (by decide) rfl (y_move rfl) ?_
                                            refine jl_y rfl (by decide) rfl (y_add_fits rfl rfl (by simp only [fits]; omega)) ?_
                                            refine jl_y rfl (by decide) rfl (y_assign rfl) ?_
                                            refine jl_nil ?_
                                            refine jq_round3 (i := i) (j := n) (l := l) (i + 1) (brN n ((2 ^ h : Nat) : Int) b).toNat l ?_ ?_ ?_
                                            · omega
                                            · exact ⟨rfl, rfl, rfl, rfl, lk_int rfl (by omega), trivial⟩
                                            · exact fun _ h2 => ⟨by omega, h2.cast (by rw [show (((brN n ((2 ^ h : Nat) : Int) b).toNat : Nat) : Int) = brN n ((2 ^ h : Nat) : Int) b by omega])⟩
                                            )
                                        )
                                    )
                                · first
                                  | (exfalso; omega)
                                  | (
                                    refine jl_y rfl (by decide) rfl (y_move rfl) ?_
                                    refine jl_skip rfl (by decide) rfl ?_
                                    refine jl_skip rfl (by decide) rfl ?_
                                    refine jl_skip rfl (by decide) rfl ?_
                                    refine jl_skip rfl (by decide) rfl ?_
                                    refine jl_skip rfl (by decide) rfl ?_
                                    refine jl_skip rfl (by decide) rfl ?_
                                    refine jl_skip rfl (by decide) rfl ?_
                                    refine jl_skip rfl (by decide) rfl ?_
                                    refine jl_skip rfl (by decide) rfl ?_
                                    refine jl_y rfl (by decide) rfl (y_pick_false rfl rfl) ?_
                                    refine jl_y rfl (by decide) rfl (y_pick_false rfl rfl) ?_
                                    refine jl_y rfl (by decide) rfl (y_move rfl) ?_
                                    refine jl_y rfl (by decide) rfl (y_move rfl) ?_
                                    refine jl_y rfl (by decide) rfl (y_neq rfl rfl) ?_
                                    refine jl_prop (fun h102 => ?_) (fun h102 => ?_)
                                    · first
                                      | (exfalso; omega)
                                      | (
                                        refine jl_y rfl (by decide) rfl (y_move rfl) ?_
                                        refine jl_y rfl (by decide) rfl (y_move rfl) ?_
                                        first | refine jl_y rfl (by decide) rfl (y_nilCheck rfl) ?_ | refine jl_y rfl (by decide) rfl (y_nilCheck_func rfl) ?_
                                        refine jl_y rfl (by decide) rfl (y_fieldAddr rfl) ?_
                                        refine jl_y rfl (by decide) rfl (y_load_old rfl hkk.2.1 hkk.1) ?_
                                        refine jl_pcall rfl (by decide) rfl (goes_func rfl) (fun w1 hw1 => pcall hw1 (cnext_any bk.2 (brN n ((2 ^ h : Nat) : Int) b) w1 (CellAt.of_cells (hw1.get (A := .cells bk.2 [.int .i64 (brN n ((2 ^ h : Nat) : Int) b), .int .i64 ((2 ^ h : Nat) : Int)]) mem0) rfl))) ?_
                                        refine jl_y rfl (by decide) rfl (y_move rfl) ?_
                                        refine jl_y rfl (by decide) rfl (y_neq rfl rfl) ?_
                                        refine jl_prop (fun h110 => ?_) (fun h110 => ?_)
                                        · first
                                          | (exfalso; omega)
                                          | (
                                            refine jl_y rfl (by decide) rfl (y_pick_true rfl rfl) ?_
                                            refine jl_y rfl (by decide) rfl (y_pick_false rfl rfl) ?_
                                            refine jl_nil ?_
                                            refine jq_then ?_
                                            refine jc_true rfl ?_
                                            refine jc_seq ?_
                                            -- region 15
                                            refine jc_region ?_
                                            refine jl_y rfl (by decide) rfl (y_assign rfl) ?_
                                            refine jl_nil ?_
                                            refine jq_then ?_
                                            refine jc_ret ?_
                                            refine jq_then_ret ?_
                                            refine jq_then_ret ?_
                                            refine jq_block_ret ?_
                                            refine jq_then_ret ?_
                                            refine jq_then_ret ?_
                                            refine jq_block_ret ?_
                                            refine jq_then_ret ?_
                                            refine jq_ret1 rfl rfl ?_
                                            exact fun _ hw => ⟨rfl, (hallk.next hw (by repeat first | exact ⟨_, mem0, rfl⟩ | exact ⟨_, mem1, rfl⟩ | exact ⟨_, mem2, rfl⟩ | refine List.forall_mem_cons.2 ⟨?_, ?_⟩ | exact fun _ h => absurd h List.not_mem_nil)).ch⟩
                                            )
                                        · first
                                          | (exfalso; omega)
                                          | (
                                            refine jl_y rfl (by decide) rfl (y_pick_true rfl rfl) ?_
                                            refine jl_y rfl (by decide) rfl (y_pick_false rfl rfl) ?_
                                            refine jl_nil ?_
                                            refine jq_then ?_
                                            refine jc_false rfl ?_
                                            refine jc_skip ?_
                                            refine jq_then ?_
                                            refine jc_exit ?_
                                            refine jq_then_exit ?_
                                            refine jq_hit ?_
                                            refine jq_then ?_
                                            -- region 9
                                            refine jc_region ?_
                                            refine jl_y rfl (by decide) rfl (y_move rfl) ?_
                                            refine jl_y rfl (by decide) rfl (y_add_fits rfl rfl (by simp only [fits]; omega)) ?_
                                            refine jl_y rfl (by decide) rfl (y_assign rfl) ?_
                                            refine jl_nil ?_
                                            refine jq_round3 (i := i) (j := n) (l := l) (i + 1) (brN n ((2 ^ h : Nat) : Int) b).toNat l ?_ ?_ ?_
                                            · omega
                                            · exact ⟨rfl, rfl, rfl, rfl, lk_int rfl (by omega), trivial⟩
                                            · exact fun _ h2 => ⟨by omega, h2.cast (by rw [show (((brN n ((2 ^ h : Nat) : Int) b).toNat : Nat) : Int) = brN n ((2 ^ h : Nat) : Int) b by omega])⟩
                                            )
                                        )
                                    · first
                                      | (exfalso; omega)
                                      | (
                                        refine jl_y rfl (by decide) rfl (y_move rfl) ?_
                                        refine jl_skip rfl (by decide) rfl ?_
                                        refine jl_skip rfl (by decide) rfl ?_
                                        refine jl_skip rfl (by decide) rfl ?_
                                        refine jl_skip rfl (by decide) rfl ?_
                                        refine jl_skip rfl (by decide) rfl ?_
                                        refine jl_skip rfl (by decide) rfl ?_
                                        refine jl_skip rfl (by decide) rfl ?_
                                        refine jl_y rfl (by decide) rfl (y_pick_false rfl rfl) ?_
                                        refine jl_y rfl (by decide) rfl (y_pick_false rfl rfl) ?_
                                        refine jl_nil ?_
                                        refine jq_then ?_
                                        refine jc_false rfl ?_
                                        refine jc_skip ?_
                                        refine jq_then ?_
                                        refine jc_exit ?_
                                        refine jq_then_exit ?_
                                        refine jq_hit ?_
                                        refine jq_then ?_
                                        -- region 9
                                        refine jc_region ?_
                                        refine jl_y rfl (by decide) rfl (y_move rfl) ?_
                                        refine jl_y rfl (by decide) rfl (y_add_fits rfl rfl (by simp only [fits]; omega)) ?_
                                        refine jl_y rfl (by decide) rfl (y_assign rfl) ?_
                                        refine jl_nil ?_
                                        refine jq_round3 (i := i) (j := n) (l := l) (i + 1) (brN n ((2 ^ h : Nat) : Int) b).toNat l ?_ ?_ ?_
                                        · omega
                                        · exact ⟨rfl, rfl, rfl, rfl, lk_int rfl (by omega), trivial⟩
                                        · exact fun _ h2 => ⟨by omega, h2.cast (by rw [show (((brN n ((2 ^ h : Nat) : Int) b).toNat : Nat) : Int) = brN n ((2 ^ h : Nat) : Int) b by omega])⟩
                                        )
                                    )
                                )
                            · first
                              | (exfalso; omega)
                              | (
                                refine jl_y rfl (by decide) rfl (y_pick_true rfl rfl) ?_
                                refine jl_y rfl (by decide) rfl (y_neq_bool rfl rfl) ?_
                                refine jl_as (u := .bool true) rfl ?_
                                refine jl_y rfl (by decide) rfl (y_move rfl) ?_
                                refine jl_skip rfl (by decide) rfl ?_
                                refine jl_skip rfl (by decide) rfl ?_
                                refine jl_skip rfl (by decide) rfl ?_
                                refine jl_skip rfl (by decide) rfl ?_
                                refine jl_skip rfl (by decide) rfl ?_
                                refine jl_skip rfl (by decide) rfl ?_
                                refine jl_skip rfl (by decide) rfl ?_
                                refine jl_skip rfl (by decide) rfl ?_
                                refine jl_skip rfl (by decide) rfl ?_
                                refine jl_skip rfl (by decide) rfl ?_
                                refine jl_skip rfl (by decide) rfl ?_
                                refine jl_skip rfl (by decide) rfl ?_
                                refine jl_skip rfl (by decide) rfl ?_
                                refine jl_y rfl (by decide) rfl (y_pick_true rfl rfl) ?_
                                refine jl_y rfl (by decide) rfl (y_move rfl) ?_
                                refine jl_skip rfl (by decide) rfl ?_
                                refine jl_skip rfl (by decide) rfl ?_
                                refine jl_skip rfl (by decide) rfl ?_
                                refine jl_skip rfl (by decide) rfl ?_
                                refine jl_skip rfl (by decide) rfl ?_
                                refine jl_skip rfl (by decide) rfl ?_
                                refine jl_skip rfl (by decide) rfl ?_
                                refine jl_skip rfl (by decide) rfl ?_
                                refine jl_skip rfl (by decide) rfl ?_
                                refine jl_skip rfl (by decide) rfl ?_
                                refine jl_skip rfl (by decide) rfl ?_
                                refine jl_y rfl (by decide) rfl (y_pick_true rfl rfl) ?_
                                refine jl_nil ?_
                                refine jq_then ?_
                                refine jc_true rfl ?_
                                refine jc_seq ?_
                                -- region 15
                                refine jc_region ?_
                                refine jl_y rfl (by decide) rfl (y_assign rfl) ?_
                                refine jl_nil ?_
                                refine jq_then ?_
                                refine jc_ret ?_
                                refine jq_then_ret ?_
                                refine jq_then_ret ?_
                                refine jq_block_ret ?_
                                refine jq_then_ret ?_
                                refine jq_then_ret ?_
                                refine jq_block_ret ?_
                                refine jq_then_ret ?_
                                refine jq_ret1 rfl rfl ?_
                                exact fun _ hw => ⟨rfl, (hallk.next hw (by repeat first | exact ⟨_, mem0, rfl⟩ | exact ⟨_, mem1, rfl⟩ | exact ⟨_, mem2, rfl⟩ | refine List.forall_mem_cons.2 ⟨?_, ?_⟩ | exact fun _ h => absurd h List.not_mem_nil)).ch⟩
                                )
                            )
                        · first
                          | (exfalso; omega)
                          | (
                            refine jl_y rfl (by decide) rfl (y_move rfl) ?_
                            refine jl_skip rfl (by decide) rfl ?_
                            refine jl_skip rfl (by decide) rfl ?_
                            refine jl_skip rfl (by decide) rfl ?_
                            refine jl_y rfl (by decide) rfl (y_pick_false rfl rfl) ?_
                            refine jl_y rfl (by decide) rfl (y_neq_bool rfl rfl) ?_
                            refine jl_as (u := .bool true) rfl ?_
                            refine jl_y rfl (by decide) rfl (y_move rfl) ?_
                            refine jl_skip rfl (by decide) rfl ?_
                            refine jl_skip rfl (by decide) rfl ?_
                            refine jl_skip rfl (by decide) rfl ?_
                            refine jl_skip rfl (by decide) rfl ?_
                            refine jl_skip rfl (by decide) rfl ?_
                            refine jl_skip rfl (by decide) rfl ?_
                            refine jl_skip rfl (by decide) rfl ?_
                            refine jl_skip rfl (by decide) rfl ?_
                            refine jl_skip rfl (by decide) rfl ?_
                            refine jl_skip rfl (by decide) rfl ?_
                            refine jl_skip rfl (by decide) rfl ?_
                            refine jl_skip rfl (by decide) rfl ?_
                            refine jl_skip rfl (by decide) rfl ?_
                            refine jl_y rfl (by decide) rfl (y_pick_true rfl rfl) ?_
                            refine jl_y rfl (by decide) rfl (y_move rfl) ?_
                            refine jl_skip rfl (by decide) rfl ?_
                            refine jl_skip rfl (by decide) rfl ?_
                            refine jl_skip rfl (by decide) rfl ?_
                            refine jl_skip rfl (by decide) rfl ?_
                            refine jl_skip rfl (by decide) rfl ?_
                            refine jl_skip rfl (by decide) rfl ?_
                            refine jl_skip rfl (by decide) rfl ?_
                            refine jl_skip rfl (by decide) rfl ?_
                            refine jl_skip rfl (by decide) rfl ?_
                            refine jl_skip rfl (by decide) rfl ?_
                            refine jl_skip rfl (by decide) rfl ?_
                            refine jl_y rfl (by decide) rfl (y_pick_true rfl rfl) ?_
                            refine jl_nil ?_
                            refine jq_then ?_
                            refine jc_true rfl ?_
                            refine jc_seq ?_
                            -- region 15
                            refine jc_region ?_
                            refine jl_y rfl (by decide) rfl (y_assign rfl) ?_
                            refine jl_nil ?_
                            refine jq_then ?_
                            refine jc_ret ?_
                            refine jq_then_ret ?_
                            refine jq_then_ret ?_
                            refine jq_block_ret ?_
                            refine jq_then_ret ?_
                            refine jq_then_ret ?_
                            refine jq_block_ret ?_
                            refine jq_then_ret ?_
                            refine jq_ret1 rfl rfl ?_
                            exact fun _ hw => ⟨rfl, (hallk.next hw (by repeat first | exact ⟨_, mem0, rfl⟩ | exact ⟨_, mem1, rfl⟩ | exact ⟨_, mem2, rfl⟩ | refine List.forall_mem_cons.2 ⟨?_, ?_⟩ | exact fun _ h => absurd h List.not_mem_nil)).ch⟩
                            )
                        )
                    · first
                      | (exfalso; omega)
                      | (
                        refine jl_y rfl (by decide) rfl (y_move rfl) ?_
                        refine jl_y rfl (by decide) rfl (y_geq rfl rfl) ?_
                        refine jl_prop (fun h78 => ?_) (fun h78 => ?_)
                        · first
                          | (exfalso; omega)
                          | (
                            refine jl_y rfl (by decide) rfl (y_move rfl) ?_
                            refine jl_y rfl (by decide) rfl (y_move rfl) ?_
                            refine jl_y rfl (by decide) rfl (y_move rfl) ?_
                            refine jl_y rfl (by decide) rfl (y_leq rfl rfl) ?_
                            refine jl_prop (fun h82 => ?_) (fun h82 => ?_)
                            · first
                              | (exfalso; omega)
                              | (
                                refine jl_y rfl (by decide) rfl (y_pick_true rfl rfl) ?_
                                refine jl_y rfl (by decide) rfl (y_neq_bool rfl rfl) ?_
                                refine jl_as (u := .bool true) rfl ?_
                                refine jl_y rfl (by decide) rfl (y_move rfl) ?_
                                refine jl_skip rfl (by decide) rfl ?_
                                refine jl_skip rfl (by decide) rfl ?_
                                refine jl_skip rfl (by decide) rfl ?_
                                refine jl_skip rfl (by decide) rfl ?_
                                refine jl_skip rfl (by decide) rfl ?_
                                refine jl_skip rfl (by decide) rfl ?_
                                refine jl_skip rfl (by decide) rfl ?_
                                refine jl_skip rfl (by decide) rfl ?_
                                refine jl_skip rfl (by decide) rfl ?_
                                refine jl_skip rfl (by decide) rfl ?_
                                refine jl_skip rfl (by decide) rfl ?_
                                refine jl_skip rfl (by decide) rfl ?_
                                refine jl_skip rfl (by decide) rfl ?_
                                refine jl_y rfl (by decide) rfl (y_pick_true rfl rfl) ?_
                                refine jl_y rfl (by decide) rfl (y_move rfl) ?_
                                refine jl_skip rfl (by decide) rfl ?_
                                refine jl_skip rfl (by decide) rfl ?_
                                refine jl_skip rfl (by decide) rfl ?_
                                refine jl_skip rfl (by decide) rfl ?_
                                refine jl_skip rfl (by decide) rfl ?_
                                refine jl_skip rfl (by decide) rfl ?_
                                refine jl_skip rfl (by decide) rfl ?_
                                refine jl_skip rfl (by decide) rfl ?_
                                refine jl_skip rfl (by decide) rfl ?_
                                refine jl_skip rfl (by decide) rfl ?_
                                refine jl_skip rfl (by decide) rfl ?_
                                refine jl_y rfl (by decide) rfl (y_pick_true rfl rfl) ?_
                                refine jl_nil ?_
                                refine jq_then ?_
                                refine jc_true rfl ?_
                                refine jc_seq ?_
                                -- region 15
                                refine jc_region ?_
                                refine jl_y rfl (by decide) rfl (y_assign rfl) ?_
                                refine jl_nil ?_
                                refine jq_then ?_
                                refine jc_ret ?_
                                refine jq_then_ret ?_
                                refine jq_then_ret ?_
                                refine jq_block_ret ?_
                                refine jq_then_ret ?_
                                refine jq_then_ret ?_
                                refine jq_block_ret ?_
                                refine jq_then_ret ?_
                                refine jq_ret1 rfl rfl ?_
                                exact fun _ hw => ⟨rfl, (hallk.next hw (by repeat first | exact ⟨_, mem0, rfl⟩ | exact ⟨_, mem1, rfl⟩ | exact ⟨_, mem2, rfl⟩ | refine List.forall_mem_cons.2 ⟨?_, ?_⟩ | exact fun _ h => absurd h List.not_mem_nil)).ch⟩
                                )
                            · first
                              | (exfalso; omega)
                              | (
                                refine jl_y rfl (by decide) rfl (y_pick_true rfl rfl) ?_
                                refine jl_y rfl (by decide) rfl (y_neq_bool rfl rfl) ?_
                                refine jl_as (u := .bool false) rfl ?_
                                refine jl_y rfl (by decide) rfl (y_move rfl) ?_
                                refine jl_y rfl (by decide) rfl (y_move rfl) ?_
                                refine jl_y rfl (by decide) rfl (y_eql rfl rfl) ?_
                                refine jl_prop (fun h87 => ?_) (fun h87 => ?_)
                                · first
                                  | (exfalso; omega)
                                  | (
                                    refine jl_y rfl (by decide) rfl (y_move rfl) ?_
                                    refine jl_y rfl (by decide) rfl (y_move rfl) ?_
                                    first | refine jl_y rfl (by decide) rfl (y_nilCheck rfl) ?_ | refine jl_y rfl (by decide) rfl (y_nilCheck_func rfl) ?_
                                    refine jl_y rfl (by decide) rfl (y_fieldAddr rfl) ?_
                                    refine jl_y rfl (by decide) rfl (y_load_old rfl hkk.2.1 hkk.1) ?_
                                    refine jl_pcall rfl (by decide) rfl (goes_func rfl) (fun w1 hw1 => pcall hw1 (cnext_any bk.2 (brN n ((2 ^ h : Nat) : Int) b) w1 (CellAt.of_cells (hw1.get (A := .cells bk.2 [.int .i64 (brN n ((2 ^ h : Nat) : Int) b), .int .i64 ((2 ^ h : Nat) : Int)]) mem0) rfl))) ?_
                                    refine jl_y rfl (by decide) rfl (y_move rfl) ?_
                                    refine jl_y rfl (by decide) rfl (y_move rfl) ?_
                                    refine jl_y rfl (by decide) rfl (y_max rfl rfl) ?_
                                    refine jl_y rfl (by decide) rfl (y_neq rfl rfl) ?_
                                    refine jl_prop (fun h97 => ?_) (fun h97 => ?_)
                                    · first
                                      | (exfalso; omega)
                                      | (
                                        refine jl_y rfl (by decide) rfl (y_pick_true rfl rfl) ?_
                                        refine jl_y rfl (by decide) rfl (y_pick_false rfl rfl) ?_
                                        refine jl_y rfl (by decide) rfl (y_move rfl) ?_
                                        refine jl_skip rfl (by decide) rfl ?_
                                        refine jl_skip rfl (by decide) rfl ?_
                                        refine jl_skip rfl (by decide) rfl ?_
                                        refine jl_skip rfl (by decide) rfl ?_
                                        refine jl_skip rfl (by decide) rfl ?_
                                        refine jl_skip rfl (by decide) rfl ?_
                                        refine jl_skip rfl (by decide) rfl ?_
                                        refine jl_skip rfl (by decide) rfl ?_
                                        refine jl_skip rfl (by decide) rfl ?_
                                        refine jl_skip rfl (by decide) rfl ?_
                                        refine jl_skip rfl (by decide) rfl ?_
                                        refine jl_y rfl (by decide) rfl (y_pick_true rfl rfl) ?_
                                        refine jl_nil ?_
                                        refine jq_then ?_
                                        refine jc_true rfl ?_
                                        refine jc_seq ?_
                                        -- region 15
                                        refine jc_region ?_
                                        refine jl_y rfl (by decide) rfl (y_assign rfl) ?_
                                        refine jl_nil ?_
                                        refine jq_then ?_
                                        refine jc_ret ?_
                                        refine jq_then_ret ?_
                                        refine jq_then_ret ?_
                                        refine jq_block_ret ?_
                                        refine jq_then_ret ?_
                                        refine jq_then_ret ?_
                                        refine jq_block_ret ?_
                                        refine jq_then_ret ?_
                                        refine jq_ret1 rfl rfl ?_
                                        exact fun _ hw => ⟨rfl, (hallk.next hw (by repeat first | exact ⟨_, mem0, rfl⟩ | exact ⟨_, mem1, rfl⟩ | exact ⟨_, mem2, rfl⟩ | refine List.forall_mem_cons.2 ⟨?_, ?_⟩ | exact fun _ h => absurd h List.not_mem_nil)).ch⟩
                                        )
                                    · first
                                      | (exfalso; omega)
                                      | (
                                        refine jl_y rfl (by decide) rfl (y_pick_true rfl rfl) ?_
                                        refine jl_y rfl (by decide) rfl (y_pick_false rfl rfl) ?_
                                        refine jl_y rfl (by decide) rfl (y_move rfl) ?_
                                        refine jl_y rfl (by decide) rfl (y_move rfl) ?_
                                        refine jl_y rfl (by decide) rfl (y_neq rfl rfl) ?_
                                        refine jl_prop (fun h102 => ?_) (fun h102 => ?_)
                                        · first
                                          | (exfalso; omega)
                                          | (
                                            refine jl_y rfl (by decide) rfl (y_move rfl) ?_
                                            refine jl_y rfl (by decide) rfl (y_move rfl) ?_
                                            first | refine jl_y rfl (by decide) rfl (y_nilCheck rfl) ?_ | refine jl_y rfl (by decide) rfl (y_nilCheck_func rfl) ?_
                                            refine jl_y rfl (by decide) rfl (y_fieldAddr rfl) ?_
                                            refine jl_y rfl (by decide) rfl (y_load_old rfl hkk.2.1 hkk.1) ?_
                                            refine jl_pcall rfl (by decide) rfl (goes_func rfl) (fun w1 hw1 => pcall hw1 (cnext_any bk.2 (brN n ((2 ^ h : Nat) : Int) b) w1 (CellAt.of_cells (hw1.get (A := .cells bk.2 [.int .i64 (brN n ((2 ^ h : Nat) : Int) b), .int .i64 ((2 ^ h : Nat) : Int)]) mem0) rfl))) ?_
                                            refine jl_y rfl (by decide) rfl (y_move rfl) ?_
                                            refine jl_y rfl (by decide) rfl (y_neq rfl rfl) ?_
                                            refine jl_prop (fun h110 => ?_) (fun h110 => ?_)
                                            · first
                                              | (exfalso; omega)
                                              | (
                                                refine jl_y rfl (by decide) rfl (y_pick_true rfl rfl) ?_
                                                refine jl_y rfl (by decide) rfl (y_pick_false rfl rfl) ?_
                                                refine jl_nil ?_
                                                refine jq_then ?_
                                                refine jc_true rfl ?_
                                                refine jc_seq ?_
                                                -- region 15
                                                refine jc_region ?_
                                                refine jl_y rfl (by decide) rfl (y_assign rfl) ?_
                                                refine jl_nil ?_
                                                refine jq_then ?_
                                                refine jc_ret ?_
                                                refine jq_then_ret ?_
                                                refine jq_then_ret ?_
                                                refine jq_block_ret ?_
                                                refine jq_then_ret ?_
                                                refine jq_then_ret ?_
                                                refine jq_block_ret ?_
                                                refine jq_then_ret ?_
                                                refine jq_ret1 rfl rfl ?_
                                                exact fun _ hw => ⟨rfl, (hallk.next hw (by repeat first | exact ⟨_, mem0, rfl⟩ | exact ⟨_, mem1, rfl⟩ | exact ⟨_, mem2, rfl⟩ | refine List.forall_mem_cons.2 ⟨?_, ?_⟩ | exact fun _ h => absurd h List.not_mem_nil)).ch⟩
                                                )
                                            · first
                                              | (exfalso; omega)
                                              | (
                                                refine jl_y rfl (by decide) rfl (y_pick_true rfl rfl) ?_
                                                refine jl_y rfl (by decide) rfl (y_pick_false rfl rfl) ?_
                                                refine jl_nil ?_
                                                refine jq_then ?_
                                                refine jc_false rfl ?_
                                                refine jc_skip ?_
                                                refine jq_then ?_
                                                refine jc_exit ?_
                                                refine jq_then_exit ?_
                                                refine jq_hit ?_
                                                refine jq_then ?_
                                                -- region 9
                                                refine jc_region ?_
                                                refine jl_y rfl (by decide) rfl (y_move rfl) ?_
                                                refine jl_y rfl (by decide) rfl (y_add_fits rfl rfl (by simp only [fits]; omega)) ?_
                                                refine jl_y rfl (by decide) rfl (y_assign rfl) ?_
                                                refine jl_nil ?_
                                                refine jq_round3 (i := i) (j := n) (l := l) (i + 1) (brN n ((2 ^ h : Nat) : Int) b).toNat l ?_ ?_ ?_
                                                · omega
                                                · exact ⟨rfl, rfl, rfl, rfl, lk_int rfl (by omega), trivial⟩
                                                · exact fun _ h2 => ⟨by omega, h2.cast (by rw [show (((brN n ((2 ^ h : Nat) : Int) b).toNat : Nat) : Int) = brN n ((2 ^ h : Nat) : Int) b by omega])⟩
                                                )
                                            )
                                        · first
                                          | (exfalso; omega)
                                          | (
                                            refine jl_y rfl (by decide) rfl (y_move rfl) ?_
                                            refine jl_skip rfl (by decide) rfl ?_
                                            refine jl_skip rfl (by decide) rfl ?_
                                            refine jl_skip rfl (by decide) rfl ?_
                                            refine jl_skip rfl (by decide) rfl ?_
                                            refine jl_skip rfl (by decide) rfl ?_
                                            refine jl_skip rfl (by decide) rfl ?_
                                            refine jl_skip rfl (by decide) rfl ?_
                                            refine jl_y rfl (by decide) rfl (y_pick_false rfl rfl) ?_
                                            refine jl_y rfl (by decide) rfl (y_pick_false rfl rfl) ?_
                                            refine jl_nil ?_
                                            refine jq_then ?_
                                            refine jc_false rfl ?_
                                            refine jc_skip ?_
                                            refine jq_then ?_
                                            refine jc_exit ?_
                                            refine jq_then_exit ?_
                                            refine jq_hit ?_
                                            refine jq_then ?_
                                            -- region 9
                                            refine jc_region ?_
                                            refine jl_y rfl (by decide) rfl (y_move rfl) ?_
                                            refine jl_y rfl (by decide) rfl (y_add_fits rfl rfl (by simp only [fits]; omega)) ?_
                                            refine jl_y rfl (by decide) rfl (y_assign rfl) ?_
                                            refine jl_nil ?_
                                            refine jq_round3 (i := i) (j := n) (l := l) (i + 1) (brN n ((2 ^ h : Nat) : Int) b).toNat l ?_ ?_ ?_
                                            · omega
                                            · exact ⟨rfl, rfl, rfl, rfl, lk_int rfl (by omega), trivial⟩
                                            · exact fun _ h2 => ⟨by omega, h2.cast (by rw [show (((brN n ((2 ^ h : Nat) : Int) b).toNat : Nat) : Int) = brN n ((2 ^ h : Nat) : Int) b by omega])⟩
                                            )
                                        )
                                    )
                                · first
                                  | (exfalso; omega)
                                  | (
                                    refine jl_y rfl (by decide) rfl (y_move rfl) ?_
                                    refine jl_skip rfl (by decide) rfl ?_
                                    refine jl_skip rfl (by decide) rfl ?_
                                    refine jl_skip rfl (by decide) rfl ?_
                                    refine jl_skip rfl (by decide) rfl ?_
                                    refine jl_skip rfl (by decide) rfl ?_
                                    refine jl_skip rfl (by decide) rfl ?_
                                    refine jl_skip rfl (by decide) rfl ?_
                                    refine jl_skip rfl (by decide) rfl ?_
                                    refine jl_skip rfl (by decide) rfl ?_
                                    refine jl_y rfl (by decide) rfl (y_pick_false rfl rfl) ?_
                                    refine jl_y rfl (by decide) rfl (y_pick_false rfl rfl) ?_
                                    refine jl_y rfl (by decide) rfl (y_move rfl) ?_
                                    refine jl_y rfl (by decide) rfl (y_move rfl) ?_
                                    refine jl_y rfl (by decide) rfl (y_neq rfl rfl) ?_
                                    refine jl_prop (fun h102 => ?_) (fun h102 => ?_)
                                    · first
                                      | (exfalso; omega)
                                      | (
                                        refine jl_y rfl (by decide) rfl (y_move rfl) ?_
                                        refine jl_y rfl (by decide) rfl (y_move rfl) ?_
                                        first | refine jl_y rfl (by decide) rfl (y_nilCheck rfl) ?_ | refine jl_y rfl (by decide) rfl (y_nilCheck_func rfl) ?_
                                        refine jl_y rfl (by decide) rfl (y_fieldAddr rfl) ?_
                                        refine jl_y rfl (by decide) rfl (y_load_old rfl hkk.2.1 hkk.1) ?_
                                        refine jl_pcall rfl (by decide) rfl (goes_func rfl) (fun w1 hw1 => pcall hw1 (cnext_any bk.2 (brN n ((2 ^ h : Nat) : Int) b) w1 (CellAt.of_cells (hw1.get (A := .cells bk.2 [.int .i64 (brN n ((2 ^ h : Nat) : Int) b), .int .i64 ((2 ^ h : Nat) : Int)]) mem0) rfl))) ?_
                                        refine jl_y rfl (by decide) rfl (y_move rfl) ?_
                                        refine jl_y rfl (by decide) rfl (y_neq rfl rfl) ?_
                                        refine jl_prop (fun h110 => ?_) (fun h110 => ?_)
                                        · first
                                          | (exfalso; omega)
                                          | (
                                            refine jl_y rfl (by decide) rfl (y_pick_true rfl rfl) ?_
                                            refine jl_y rfl (by decide) rfl (y_pick_false rfl rfl) ?_
                                            refine jl_nil ?_
                                            refine jq_then ?_
                                            refine jc_true rfl ?_
                                            refine jc_seq ?_
                                            -- region 15
                                            refine jc_region ?_
                                            refine jl_y rfl (by decide) rfl (y_assign rfl) ?_
                                            refine jl_nil ?_
                                            refine jq_then ?_
                                            refine jc_ret ?_
                                            refine jq_then_ret ?_
                                            refine jq_then_ret ?_
                                            refine jq_block_ret ?_
                                            refine jq_then_ret ?_
                                            refine jq_then_ret ?_
                                            refine jq_block_ret ?_
                                            refine jq_then_ret ?_
                                            refine jq_ret1 rfl rfl ?_
                                            exact fun _ hw => ⟨rfl, (hallk.next hw (by repeat first | exact ⟨_, mem0, rfl⟩ | exact ⟨_, mem1, rfl⟩ | exact ⟨_, mem2, rfl⟩ | refine List.forall_mem_cons.2 ⟨?_, ?_⟩ | exact fun _ h => absurd h List.not_mem_nil)).ch⟩
                                            )
                                        · first
                                          | (exfalso; omega)
                                          | (
                                            refine jl_y rfl (by decide) rfl (y_pick_true rfl rfl) ?_
                                            refine jl_y rfl (by decide) rfl (y_pick_false rfl rfl) ?_
                                            refine jl_nil ?_
                                            refine jq_then ?_
                                            refine jc_false rfl ?_
                                            refine jc_skip ?_
                                            refine jq_then ?_
                                            refine jc_exit ?_
                                            refine jq_then_exit ?_
                                            refine jq_hit ?_
                                            refine jq_then ?_
                                            -- region 9
                                            refine jc_region ?_
                                            refine jl_y rfl (by decide) rfl (y_move rfl) ?_
                                            refine jl_y rfl (by decide) rfl (y_add_fits rfl rfl (by simp only [fits]; omega)) ?_
                                            refine jl_y rfl (by decide) rfl (y_assign rfl) ?_
                                            refine jl_nil ?_
                                            refine jq_round3 (i := i) (j := n) (l := l) (i + 1) (brN n ((2 ^ h : Nat) : Int) b).toNat l ?_ ?_ ?_
                                            · omega
                                            · exact ⟨rfl, rfl, rfl, rfl, lk_int rfl (by omega), trivial⟩
                                            · exact fun _ h2 => ⟨by omega, h2.cast (by rw [show (((brN n ((2 ^ h : Nat) : Int) b).toNat : Nat) : Int) = brN n ((2 ^ h : Nat) : Int) b by omega])⟩
                                            )
                                        )
                                    · first
                                      | (exfalso; omega)
                                      | (
                                        refine jl_y rfl (by decide) rfl (y_move rfl) ?_
                                        refine jl_skip rfl (by decide) rfl ?_
                                        refine jl_skip rfl (by decide) rfl ?_
                                        refine jl_skip rfl (by decide) rfl ?_
                                        refine jl_skip rfl (by decide) rfl ?_
                                        refine jl_skip rfl (by decide) rfl ?_
                                        refine jl_skip rfl (by decide) rfl ?_
                                        refine jl_skip rfl (by decide) rfl ?_
                                        refine jl_y rfl (by decide) rfl (y_pick_false rfl rfl) ?_
                                        refine jl_y rfl (by decide) rfl (y_pick_false rfl rfl) ?_
                                        refine jl_nil ?_
                                        refine jq_then ?_
                                        refine jc_false rfl ?_
                                        refine jc_skip ?_
                                        refine jq_then ?_
                                        refine jc_exit ?_
                                        refine jq_then_exit ?_
                                        refine jq_hit ?_
                                        refine jq_then ?_
                                        -- region 9
                                        refine jc_region ?_
                                        refine jl_y rfl (by decide) rfl (y_move rfl) ?_
                                        refine jl_y rfl (by decide) rfl (y_add_fits rfl rfl (by simp only [fits]; omega)) ?_
                                        refine jl_y rfl (by decide) rfl (y_assign rfl) ?_
                                        refine jl_nil ?_
                                        refine jq_round3 (i := i) (j := n) (l := l) (i + 1) (brN n ((2 ^ h : Nat) : Int) b).toNat l ?_ ?_ ?_
                                        · omega
                                        · exact ⟨rfl, rfl, rfl, rfl, lk_int rfl (by omega), trivial⟩
                                        · exact fun _ h2 => ⟨by omega, h2.cast (by rw [show (((brN n ((2 ^ h : Nat) : Int) b).toNat : Nat) : Int) = brN n ((2 ^ h : Nat) : Int) b by omega])⟩
                                        )
                                    )
                                )
                            )
                        · first
                          | (exfalso; omega)
                          | (
                            refine jl_y rfl (by decide) rfl (y_move rfl) ?_
                            refine jl_skip rfl (by decide) rfl ?_
                            refine jl_skip rfl (by decide) rfl ?_
                            refine jl_skip rfl (by decide) rfl ?_
                            refine jl_y rfl (by decide) rfl (y_pick_false rfl rfl) ?_
                            refine jl_y rfl (by decide) rfl (y_neq_bool rfl rfl) ?_
                            refine jl_as (u := .bool false) rfl ?_
                            refine jl_y rfl (by decide) rfl (y_move rfl) ?_
                            refine jl_y rfl (by decide) rfl (y_move rfl) ?_
                            refine jl_y rfl (by decide) rfl (y_eql rfl rfl) ?_
                            refine jl_prop (fun h87 => ?_) (fun h87 => ?_)
                            · first
                              | (exfalso; omega)
                              | (
                                refine jl_y rfl (by decide) rfl (y_move rfl) ?_
                                refine jl_y rfl (by decide) rfl (y_move rfl) ?_
                                first | refine jl_y rfl (by decide) rfl (y_nilCheck rfl) ?_ | refine jl_y rfl (by decide) rfl (y_nilCheck_func rfl) ?_
                                refine jl_y rfl (by decide) rfl (y_fieldAddr rfl) ?_
                                refine jl_y rfl (by decide) rfl (y_load_old rfl hkk.2.1 hkk.1) ?_
                                refine jl_pcall rfl (by decide) rfl (goes_func rfl) (fun w1 hw1 => pcall hw1 (cnext_any bk.2 (brN n ((2 ^ h : Nat) : Int) b) w1 (CellAt.of_cells (hw1.get (A := .cells bk.2 [.int .i64 (brN n ((2 ^ h : Nat) : Int) b), .int .i64 ((2 ^ h : Nat) : Int)]) mem0) rfl))) ?_
                                refine jl_y rfl (by decide) rfl (y_move rfl) ?_
                                refine jl_y rfl (by decide) rfl (y_move rfl) ?_
                                refine jl_y rfl (by decide) rfl (y_max rfl rfl) ?_
                                refine jl_y rfl (by decide) rfl (y_neq rfl rfl) ?_
                                refine jl_prop (fun h97 => ?_) (fun h97 => ?_)
                                · first
                                  | (exfalso; omega)
                                  | (
                                    refine jl_y rfl (by decide) rfl (y_pick_true rfl rfl) ?_
                                    refine jl_y rfl (by decide) rfl (y_pick_false rfl rfl) ?_
                                    refine jl_y rfl (by decide) rfl (y_move rfl) ?_
                                    refine jl_skip rfl (by decide) rfl ?_
                                    refine jl_skip rfl (by decide) rfl ?_
                                    refine jl_skip rfl (by decide) rfl ?_
                                    refine jl_skip rfl (by decide) rfl ?_
                                    refine jl_skip rfl (by decide) rfl ?_
                                    refine jl_skip rfl (by decide) rfl ?_
                                    refine jl_skip rfl (by decide) rfl ?_
                                    refine jl_skip rfl (by decide) rfl ?_
                                    refine jl_skip rfl (by decide) rfl ?_
                                    refine jl_skip rfl (by decide) rfl ?_
                                    refine jl_skip rfl (by decide) rfl ?_
                                    refine jl_y rfl (by decide) rfl (y_pick_true rfl rfl) ?_
                                    refine jl_nil ?_
                                    refine jq_then ?_
                                    refine jc_true rfl ?_
                                    refine jc_seq ?_
                                    -- region 15
                                    refine jc_region ?_
                                    refine jl_y rfl (by decide) rfl (y_assign rfl) ?_
                                    refine jl_nil ?_
                                    refine jq_then ?_
                                    refine jc_ret ?_
                                    refine jq_then_ret ?_
                                    refine jq_then_ret ?_
                                    refine jq_block_ret ?_
                                    refine jq_then_ret ?_
                                    refine jq_then_ret ?_
                                    refine jq_block_ret ?_
                                    refine jq_then_ret ?_
                                    refine jq_ret1 rfl rfl ?_
                                    exact fun _ hw => ⟨rfl, (hallk.next hw (by repeat first | exact ⟨_, mem0, rfl⟩ | exact ⟨_, mem1, rfl⟩ | exact ⟨_, mem2, rfl⟩ | refine List.forall_mem_cons.2 ⟨?_, ?_⟩ | exact fun _ h => absurd h List.not_mem_nil)).ch⟩
                                    )
                                · first
                                  | (exfalso; omega)
                                  | (
                                    refine jl_y rfl (by decide) rfl (y_pick_true rfl rfl) ?_
                                    refine jl_y rfl (by decide) rfl (y_pick_false rfl rfl) ?_
                                    refine jl_y rfl (by decide) rfl (y_move rfl) ?_
                                    refine jl_y rfl (by decide) rfl (y_move rfl) ?_
                                    refine jl_y rfl (by decide) rfl (y_neq rfl rfl) ?_
                                    refine jl_prop (fun h102 => ?_) (fun h102 => ?_)
                                    · first
                                      | (exfalso; omega)
                                      | (
                                        refine jl_y rfl (by decide) rfl (y_move rfl) ?_
                                        refine jl_y rfl (by decide) rfl (y_move rfl) ?_
                                        first | refine jl_y rfl (by decide) rfl (y_nilCheck rfl) ?_ | refine jl_y rfl (by decide) rfl (y_nilCheck_func rfl) ?_
                                        refine jl_y rfl (by decide) rfl (y_fieldAddr rfl) ?_
                                        refine jl_y rfl (by decide) rfl (y_load_old rfl hkk.2.1 hkk.1) ?_
                                        refine jl_pcall rfl (by decide) rfl (goes_func rfl) (fun w1 hw1 => pcall hw1 (cnext_any bk.2 (brN n ((2 ^ h : Nat) : Int) b) w1 (CellAt.of_cells (hw1.get (A := .cells bk.2 [.int .i64 (brN n ((2 ^ h : Nat) : Int) b), .int .i64 ((2 ^ h : Nat) : Int)]) mem0) rfl))) ?_
                                        refine jl_y rfl (by decide) rfl (y_move rfl) ?_
                                        refine jl_y rfl (by decide) rfl (y_neq rfl rfl) ?_
                                        refine jl_prop (fun h110 => ?_) (fun h110 => ?_)
                                        · first
                                          | (exfalso; omega)
                                          | (
                                            refine jl_y rfl (by decide) rfl (y_pick_true rfl rfl) ?_
                                            refine jl_y rfl (by decide) rfl (y_pick_false rfl rfl) ?_
                                            refine jl_nil ?_
                                            refine jq_then ?_
                                            refine jc_true rfl ?_
                                            refine jc_seq ?_
                                            -- region 15
                                            refine jc_region ?_
                                            refine jl_y rfl (by decide) rfl (y_assign rfl) ?_
                                            refine jl_nil ?_
                                            refine jq_then ?_
                                            refine jc_ret ?_
                                            refine jq_then_ret ?_
                                            refine jq_then_ret ?_
                                            refine jq_block_ret ?_
                                            refine jq_then_ret ?_
                                            refine jq_then_ret ?_
                                            refine jq_block_ret ?_
                                            refine jq_then_ret ?_
                                            refine jq_ret1 rfl rfl ?_
                                            exact fun _ hw => ⟨rfl, (hallk.next hw (by repeat first | exact ⟨_, mem0, rfl⟩ | exact ⟨_, mem1, rfl⟩ | exact ⟨_, mem2, rfl⟩ | refine List.forall_mem_cons.2 ⟨?_, ?_⟩ | exact fun _ h => absurd h List.not_mem_nil)).ch⟩
                                            )
                                        · first
                                          | (exfalso; omega)
                                          | (
                                            refine jl_y rfl (by decide) rfl (y_pick_true rfl rfl) ?_
                                            refine jl_y rfl (by decide) rfl (y_pick_false rfl rfl) ?_
                                            refine jl_nil ?_
                                            refine jq_then ?_
                                            refine jc_false rfl ?_
                                            refine jc_skip ?_
                                            refine jq_then ?_
                                            refine jc_exit ?_
                                            refine jq_then_exit ?_
                                            refine jq_hit ?_
                                            refine jq_then ?_
                                            -- region 9
                                            refine jc_region ?_
                                            refine jl_y rfl (by decide) rfl (y_move rfl) ?_
                                            refine jl_y rfl (by decide) rfl (y_add_fits rfl rfl (by simp only [fits]; omega)) ?_
                                            refine jl_y rfl (by decide) rfl (y_assign rfl) ?_
                                            refine jl_nil ?_
                                            refine jq_round3 (i := i) (j := n) (l := l) (i + 1) (brN n ((2 ^ h : Nat) : Int) b).toNat l ?_ ?_ ?_
                                            · omega
                                            · exact ⟨rfl, rfl, rfl, rfl, lk_int rfl (by omega), trivial⟩
                                            · exact fun _ h2 => ⟨by omega, h2.cast (by rw [show (((brN n ((2 ^ h : Nat) : Int) b).toNat : Nat) : Int) = brN n ((2 ^ h : Nat) : Int) b by omega])⟩
                                            )
                                        )
                                    · first
                                      | (exfalso; omega)
                                      | (
                                        refine jl_y rfl (by decide) rfl (y_move rfl) ?_
                                        refine jl_skip rfl (by decide) rfl ?_
                                        refine jl_skip rfl (by decide) rfl ?_
                                        refine jl_skip rfl (by decide) rfl ?_
                                        refine jl_skip rfl (by decide) rfl ?_
                                        refine jl_skip rfl (by decide) rfl ?_
                                        refine jl_skip rfl (by decide) rfl ?_
                                        refine jl_skip rfl (by decide) rfl ?_
                                        refine jl_y rfl (by decide) rfl (y_pick_false rfl rfl) ?_
                                        refine jl_y rfl (by decide) rfl (y_pick_false rfl rfl) ?_
                                        refine jl_nil ?_
                                        refine jq_then ?_
                                        refine jc_false rfl ?_
                                        refine jc_skip ?_
                                        refine jq_then ?_
                                        refine jc_exit ?_
                                        refine jq_then_exit ?_
                                        refine jq_hit ?_
                                        refine jq_then ?_
                                        -- region 9
                                        refine jc_region ?_
                                        refine jl_y rfl (by decide) rfl (y_move rfl) ?_
                                        refine jl_y rfl (by decide) rfl (y_add_fits rfl rfl (by simp only [fits]; omega)) ?_
                                        refine jl_y rfl (by decide) rfl (y_assign rfl) ?_
                                        refine jl_nil ?_
                                        refine jq_round3 (i := i) (j := n) (l := l) (i + 1) (brN n ((2 ^ h : Nat) : Int) b).toNat l ?_ ?_ ?_
                                        · omega
                                        · exact ⟨rfl, rfl, rfl, rfl, lk_int rfl (by omega), trivial⟩
                                        · exact fun _ h2 => ⟨by omega, h2.cast (by rw [show (((brN n ((2 ^ h : Nat) : Int) b).toNat : Nat) : Int) = brN n ((2 ^ h : Nat) : Int) b by omega])⟩
                                        )
                                    )
                                )
                            · first
                              | (exfalso; omega)
                              | (
                                refine jl_y rfl (by decide) rfl (y_move rfl) ?_
                                refine jl_skip rfl (by decide) rfl ?_
                                refine jl_skip rfl (by decide) rfl ?_
                                refine jl_skip rfl (by decide) rfl ?_
                                refine jl_skip rfl (by decide) rfl ?_
                                refine jl_skip rfl (by decide) rfl ?_
                                refine jl_skip rfl (by decide) rfl ?_
                                refine jl_skip rfl (by decide) rfl ?_
                                refine jl_skip rfl (by decide) rfl ?_
                                refine jl_skip rfl (by decide) rfl ?_
                                refine jl_y rfl (by decide) rfl (y_pick_false rfl rfl) ?_
                                refine jl_y rfl (by decide) rfl (y_pick_false rfl rfl) ?_
                                refine jl_y rfl (by decide) rfl (y_move rfl) ?_
                                refine jl_y rfl (by decide) rfl (y_move rfl) ?_
                                refine jl_y rfl (by decide) rfl (y_neq rfl rfl) ?_
                                refine jl_prop (fun h102 => ?_) (fun h102 => ?_)
                                · first
                                  | (exfalso; omega)
                                  | (
                                    refine jl_y rfl (by decide) rfl (y_move rfl) ?_
                                    refine jl_y rfl (by decide) rfl (y_move rfl) ?_
                                    first | refine jl_y rfl (by decide) rfl (y_nilCheck rfl) ?_ | refine jl_y rfl (by decide) rfl (y_nilCheck_func rfl) ?_
                                    refine jl_y rfl (by decide) rfl (y_fieldAddr rfl) ?_
                                    refine jl_y rfl (by decide) rfl (y_load_old rfl hkk.2.1 hkk.1) ?_
                                    refine jl_pcall rfl (by decide) rfl (goes_func rfl) (fun w1 hw1 => pcall hw1 (cnext_any bk.2 (brN n ((2 ^ h : Nat) : Int) b) w1 (CellAt.of_cells (hw1.get (A := .cells bk.2 [.int .i64 (brN n ((2 ^ h : Nat) : Int) b), .int .i64 ((2 ^ h : Nat) : Int)]) mem0) rfl))) ?_
                                    refine jl_y rfl (by decide) rfl (y_move rfl) ?_
                                    refine jl_y rfl (by decide) rfl (y_neq rfl rfl) ?_
                                    refine jl_prop (fun h110 => ?_) (fun h110 => ?_)
                                    · first
                                      | (exfalso; omega)
                                      | (
                                        refine jl_y rfl (by decide) rfl (y_pick_true rfl rfl) ?_
                                        refine jl_y rfl (by decide) rfl (y_pick_false rfl rfl) ?_
                                        refine jl_nil ?_
                                        refine jq_then ?_
                                        refine jc_true rfl ?_
                                        refine jc_seq ?_
                                        -- region 15
                                        refine jc_region ?_
                                        refine jl_y rfl (by decide) rfl (y_assign rfl) ?_
                                        refine jl_nil ?_
                                        refine jq_then ?_
                                        refine jc_ret ?_
                                        refine jq_then_ret ?_
                                        refine jq_then_ret ?_
                                        refine jq_block_ret ?_
                                        refine jq_then_ret ?_
                                        refine jq_then_ret ?_
                                        refine jq_block_ret ?_
                                        refine jq_then_ret ?_
                                        refine jq_ret1 rfl rfl ?_
                                        exact fun _ hw => ⟨rfl, (hallk.next hw (by repeat first | exact ⟨_, mem0, rfl⟩ | exact ⟨_, mem1, rfl⟩ | exact ⟨_, mem2, rfl⟩ | refine List.forall_mem_cons.2 ⟨?_, ?_⟩ | exact fun _ h => absurd h List.not_mem_nil)).ch⟩
                                        )
                                    · first
                                      | (exfalso; omega)
                                      | (
                                        refine jl_y rfl (by decide) rfl (y_pick_true rfl rfl) ?_
                                        refine jl_y rfl (by decide) rfl (y_pick_false rfl rfl) ?_
                                        refine jl_nil ?_
                                        refine jq_then ?_
                                        refine jc_false rfl ?_
                                        refine jc_skip ?_
                                        refine jq_then ?_
                                        refine jc_exit ?_
                                        refine jq_then_exit ?_
                                        refine jq_hit ?_
                                        refine jq_then ?_
                                        -- region 9
                                        refine jc_region ?_
                                        refine jl_y rfl (by decide) rfl (y_move rfl) ?_
                                        refine jl_y rfl (by decide) rfl (y_add_fits rfl rfl (by simp only [fits]; omega)) ?_
                                        refine jl_y rfl (by decide) rfl (y_assign rfl) ?_
                                        refine jl_nil ?_
                                        refine jq_round3 (i := i) (j := n) (l := l) (i + 1) (brN n ((2 ^ h : Nat) : Int) b).toNat l ?_ ?_ ?_
                                        · omega
                                        · exact ⟨rfl, rfl, rfl, rfl, lk_int rfl (by omega), trivial⟩
                                        · exact fun _ h2 => ⟨by omega, h2.cast (by rw [show (((brN n ((2 ^ h : Nat) : Int) b).toNat : Nat) : Int) = brN n ((2 ^ h : Nat) : Int) b by omega])⟩
                                        )
                                    )
                                · first
                                  | (exfalso; omega)
                                  | (
                                    refine jl_y rfl (by decide) rfl (y_move rfl) ?_
                                    refine jl_skip rfl (by decide) rfl ?_
                                    refine jl_skip rfl (by decide) rfl ?_
                                    refine jl_skip rfl (by decide) rfl ?_
                                    refine jl_skip rfl (by decide) rfl ?_
                                    refine jl_skip rfl (by decide) rfl ?_
                                    refine jl_skip rfl (by decide) rfl ?_
                                    refine jl_skip rfl (by decide) rfl ?_
                                    refine jl_y rfl (by decide) rfl (y_pick_false rfl rfl) ?_
                                    refine jl_y rfl (by decide) rfl (y_pick_false rfl rfl) ?_
                                    refine jl_nil ?_
                                    refine jq_then ?_
                                    refine jc_false rfl ?_
                                    refine jc_skip ?_
                                    refine jq_then ?_
                                    refine jc_exit ?_
                                    refine jq_then_exit ?_
                                    refine jq_hit ?_
                                    refine jq_then ?_
                                    -- region 9
                                    refine jc_region ?_
                                    refine jl_y rfl (by decide) rfl (y_move rfl) ?_
                                    refine jl_y rfl (by decide) rfl (y_add_fits rfl rfl (by simp only [fits]; omega)) ?_
                                    refine jl_y rfl (by decide) rfl (y_assign rfl) ?_
                                    refine jl_nil ?_
                                    refine jq_round3 (i := i) (j := n) (l := l) (i + 1) (brN n ((2 ^ h : Nat) : Int) b).toNat l ?_ ?_ ?_
                                    · omega
                                    · exact ⟨rfl, rfl, rfl, rfl, lk_int rfl (by omega), trivial⟩
                                    · exact fun _ h2 => ⟨by omega, h2.cast (by rw [show (((brN n ((2 ^ h : Nat) : Int) b).toNat : Nat) : Int) = brN n ((2 ^ h : Nat) : Int) b by omega])⟩
                                    )
                                )
                            )
                        )
                    )
                · first
                  | (exfalso; omega)
                  | (
                    refine jl_nil ?_
                    refine jq_then ?_
                    refine jc_false rfl ?_
                    refine jc_skip ?_
                    refine jq_then ?_
                    refine jc_seq ?_
                    -- region 16
                    refine jc_region ?_
                    refine jl_y rfl (by decide) rfl (y_move rfl) ?_
                    refine jl_y rfl (by decide) rfl (y_move rfl) ?_
                    refine jl_y rfl (by decide) rfl (y_indexAddr_slice (off := oo + i) rfl rfl (by omega) (by omega) (by omega)) ?_
                    refine jl_y rfl (by decide) rfl (y_load_old rfl hc hbo) ?_
                    refine jl_y rfl (by decide) rfl (y_conv_u8 rfl) ?_
                    refine jl_m rfl (by decide) rfl (m_buildSlice (by decide) (Built.cell rfl rfl rfl (by repeat constructor) Built.nil)) (fun b118 => ?_)
                    refine jl_y rfl (by decide) rfl (y_str_own rfl (by first | exact mem0 | exact mem1 | exact mem2 | exact mem3 | exact mem4 | exact mem5) (by repeat constructor)) ?_
                    refine jl_as (u := .string (oneB x)) rfl ?_
                    refine jl_y rfl (by decide) rfl (y_assign rfl) ?_
                    refine jl_nil ?_
                    refine jq_then ?_
                    refine jc_seq ?_
                    -- region 17
                    refine jc_region ?_
                    refine jl_y rfl (by decide) rfl (y_move rfl) ?_
                    refine jl_y rfl (by decide) rfl (y_move rfl) ?_
                    refine jl_ucallH rfl (by decide) rfl (goes_func rfl) (by rfl) (fun w1 hw1 => ksign_all [bk.2] bk.1 bk.2 (cutS seed 100) h w1 (hkk.keep hw1) (by simp) (by omega) (by omega) (oneB x) (by rw [oneB_size]; decide) n (hw1.get mem1)) (by first | exact rep0 | exact rep1 | exact rep2 | exact rep3 | exact rep4) ?_
                    refine jl_y rfl (by decide) rfl (y_move rfl) ?_
                    refine jl_y rfl (by decide) rfl (y_extract rfl rfl) ?_
                    refine jl_y rfl (by decide) rfl (y_extract rfl rfl) ?_
                    refine jl_y rfl (by decide) rfl (y_assign rfl) ?_
                    refine jl_y rfl (by decide) rfl (y_assign rfl) ?_
                    refine jl_nil ?_
                    refine jq_then ?_
                    refine jc_seq ?_
                    refine jc_seq ?_
                    -- region 18
                    refine jc_region ?_
                    refine jl_y rfl (by decide) rfl (y_move rfl) ?_
                    refine jl_y rfl (by decide) rfl (y_move rfl) ?_
                    refine jl_y rfl (by decide) rfl (y_geq rfl rfl) ?_
                    refine jl_prop (fun h128 => ?_) (fun h128 => ?_)
                    · first
                      | (exfalso; omega)
                      | (
                        have hsb := @sg_bad (cutS seed 100) h n (oneB x) (by omega)
                        have hs2 := hsb.2.1
                        have hs3 := hsb.2.2
                        refine jl_nil ?_
                        refine jq_then ?_
                        refine jc_true rfl ?_
                        refine jc_seq ?_
                        refine jc_seq ?_
                        -- region 19
                        refine jc_region ?_
                        refine jl_y rfl (by decide) rfl (y_move rfl) ?_
                        refine jl_y rfl (by decide) rfl (y_neq rfl rfl) ?_
                        refine jl_prop (fun h130 => ?_) (fun h130 => ?_)
                        · first
                          | (exfalso; omega)
                          | (
                            refine jl_y rfl (by decide) rfl (y_move rfl) ?_
                            refine jl_skip rfl (by decide) rfl ?_
                            refine jl_skip rfl (by decide) rfl ?_
                            refine jl_y rfl (by decide) rfl (y_pick_true rfl rfl) ?_
                            refine jl_nil ?_
                            refine jq_then ?_
                            refine jc_true rfl ?_
                            refine jc_seq ?_
                            -- region 20
                            refine jc_region ?_
                            refine jl_y rfl (by decide) rfl (y_assign rfl) ?_
                            refine jl_nil ?_
                            refine jq_then ?_
                            refine jc_ret ?_
                            refine jq_then_ret ?_
                            refine jq_then_ret ?_
                            refine jq_block_ret ?_
                            refine jq_then_ret ?_
                            refine jq_then_ret ?_
                            refine jq_block_ret ?_
                            refine jq_then_ret ?_
                            refine jq_ret1 rfl rfl ?_
                            exact fun _ hw => ⟨rfl, (hallk.next hw (by repeat first | exact ⟨_, mem0, rfl⟩ | exact ⟨_, mem1, rfl⟩ | exact ⟨_, mem2, rfl⟩ | refine List.forall_mem_cons.2 ⟨?_, ?_⟩ | exact fun _ h => absurd h List.not_mem_nil)).ch⟩
                            )
                        · first
                          | (exfalso; omega)
                          | (
                            refine jl_y rfl (by decide) rfl (y_move rfl) ?_
                            refine jl_y rfl (by decide) rfl (y_move rfl) ?_
                            refine jl_y rfl (by decide) rfl (y_sneq rfl rfl) ?_
                            refine jl_as (u := .bool false) (congrArg (fun b => Value.bool (!b)) (decide_eq_true (hsb.1))) ?_
                            refine jl_y rfl (by decide) rfl (y_pick_false rfl rfl) ?_
                            refine jl_nil ?_
                            refine jq_then ?_
                            refine jc_false rfl ?_
                            refine jc_skip ?_
                            refine jq_then ?_
                            refine jc_exit ?_
                            refine jq_then_exit ?_
                            refine jq_hit ?_
                            refine jq_then ?_
                            -- region 9
                            refine jc_region ?_
                            refine jl_y rfl (by decide) rfl (y_move rfl) ?_
                            refine jl_y rfl (by decide) rfl (y_add_fits rfl rfl (by simp only [fits]; omega)) ?_
                            refine jl_y rfl (by decide) rfl (y_assign rfl) ?_
                            refine jl_nil ?_
                            refine jq_round3 (i := i) (j := n) (l := l) (i + 1) (sgN h n) l ?_ ?_ ?_
                            · omega
                            · exact ⟨rfl, rfl, rfl, rfl, lk_int rfl (by omega), trivial⟩
                            · exact fun _ h2 => ⟨by omega, h2.pop⟩
                            )
                        )
                    · first
                      | (exfalso; omega)
                      | (
                        have hnn : n < 2 ^ h := by omega
                        have hsb := @sg_ok (cutS seed 100) h n (oneB x) hnn
                        have hs2 := hsb.2.1
                        have hs3 := hsb.2.2
                        have hlf := leaf_sign (cutS seed 100) (show h ≤ 4 by omega) hnn (oneB x)
                        rw [← hsb.1] at hlf
                        have hl1 := hlf.1
                        have hl2 := hlf.2
                        refine jl_nil ?_
                        refine jq_then ?_
                        refine jc_false rfl ?_
                        refine jc_skip ?_
                        refine jq_then ?_
                        refine jc_seq ?_
                        -- region 21
                        refine jc_region ?_
                        refine jl_y rfl (by decide) rfl (y_move rfl) ?_
                        refine jl_pcall rfl (by decide) rfl (goes_func rfl) (fun w1 hw1 => pcall hw1 (leaf_any (sgV (cutS seed 100) h n (oneB x)) w1 (by rw [hsb.1, signK_size (cutS seed 100) hnn]; omega))) ?_
                        refine jl_y rfl (by decide) rfl (y_move rfl) ?_
                        refine jl_y rfl (by decide) rfl (y_extract rfl rfl) ?_
                        refine jl_y rfl (by decide) rfl (y_extract rfl rfl) ?_
                        refine jl_y rfl (by decide) rfl (y_assign rfl) ?_
                        refine jl_y rfl (by decide) rfl (y_assign rfl) ?_
                        refine jl_nil ?_
                        refine jq_then ?_
                        refine jc_seq ?_
                        refine jc_seq ?_
                        -- region 22
                        refine jc_region ?_
                        refine jl_y rfl (by decide) rfl (y_move rfl) ?_
                        refine jl_y rfl (by decide) rfl (y_neq rfl rfl) ?_
                        refine jl_prop (fun h141 => ?_) (fun h141 => ?_)
                        · first
                          | (exfalso; omega)
                          | (
                            refine jl_y rfl (by decide) rfl (y_move rfl) ?_
                            refine jl_skip rfl (by decide) rfl ?_
                            refine jl_skip rfl (by decide) rfl ?_
                            refine jl_y rfl (by decide) rfl (y_pick_true rfl rfl) ?_
                            refine jl_y rfl (by decide) rfl (y_move rfl) ?_
                            refine jl_skip rfl (by decide) rfl ?_
                            refine jl_skip rfl (by decide) rfl ?_
                            refine jl_skip rfl (by decide) rfl ?_
                            refine jl_y rfl (by decide) rfl (y_pick_true rfl rfl) ?_
                            refine jl_y rfl (by decide) rfl (y_move rfl) ?_
                            refine jl_skip rfl (by decide) rfl ?_
                            refine jl_skip rfl (by decide) rfl ?_
                            refine jl_skip rfl (by decide) rfl ?_
                            refine jl_y rfl (by decide) rfl (y_pick_true rfl rfl) ?_
                            refine jl_y rfl (by decide) rfl (y_move rfl) ?_
                            refine jl_skip rfl (by decide) rfl ?_
                            refine jl_skip rfl (by decide) rfl ?_
                            refine jl_skip rfl (by decide) rfl ?_
                            refine jl_skip rfl (by decide) rfl ?_
                            refine jl_skip rfl (by decide) rfl ?_
                            refine jl_skip rfl (by decide) rfl ?_
                            refine jl_skip rfl (by decide) rfl ?_
                            refine jl_skip rfl (by decide) rfl ?_
                            refine jl_y rfl (by decide) rfl (y_pick_true rfl rfl) ?_
                            refine jl_y rfl (by decide) rfl (y_move rfl) ?_
                            refine jl_skip rfl (by decide) rfl ?_
                            refine jl_skip rfl (by decide) rfl ?_
                            refine jl_skip rfl (by decide) rfl ?_
                            refine jl_skip rfl (by decide) rfl ?_
                            refine jl_skip rfl (by decide) rfl ?_
                            refine jl_skip rfl (by decide) rfl ?_
                            refine jl_skip rfl (by decide) rfl ?_
                            refine jl_skip rfl (by decide) rfl ?_
                            refine jl_skip rfl (by decide) rfl ?_
                            refine jl_skip rfl (by decide) rfl ?_
                            refine jl_y rfl (by decide) rfl (y_pick_true rfl rfl) ?_
                            refine jl_y rfl (by decide) rfl (y_move rfl) ?_
                            refine jl_skip rfl (by decide) rfl ?_
                            refine jl_skip rfl (by decide) rfl ?_
                            refine jl_skip rfl (by decide) rfl ?_
                            refine jl_skip rfl (by decide) rfl ?_
                            refine jl_skip rfl (by decide) rfl ?_
                            refine jl_skip rfl (by decide) rfl ?_
                            refine jl_y rfl (by decide) rfl (y_pick_true rfl rfl) ?_
                            refine jl_nil ?_
                            refine jq_then ?_
                            refine jc_true rfl ?_
                            refine jc_seq ?_
                            -- region 23
                            refine jc_region ?_
                            refine jl_y rfl (by decide) rfl (y_assign rfl) ?_
                            refine jl_nil ?_
                            refine jq_then ?_
                            refine jc_ret ?_
                            refine jq_then_ret ?_
                            refine jq_block_ret ?_
                            refine jq_then_ret ?_
                            refine jq_then_ret ?_
                            refine jq_block_ret ?_
                            refine jq_then_ret ?_
                            refine jq_ret1 rfl rfl ?_
                            exact fun _ hw => ⟨rfl, (hallk.next hw (by repeat first | exact ⟨_, mem0, rfl⟩ | exact ⟨_, mem1, rfl⟩ | exact ⟨_, mem2, rfl⟩ | refine List.forall_mem_cons.2 ⟨?_, ?_⟩ | exact fun _ h => absurd h List.not_mem_nil)).ch⟩
                            )
                        · first
                          | (exfalso; omega)
                          | (
                            refine jl_y rfl (by decide) rfl (y_move rfl) ?_
                            refine jl_y rfl (by decide) rfl (y_move rfl) ?_
                            refine jl_y rfl (by decide) rfl (y_neq rfl rfl) ?_
                            refine jl_prop (fun h144 => ?_) (fun h144 => ?_)
                            · first
                              | (exfalso; omega)
                              | (
                                refine jl_y rfl (by decide) rfl (y_pick_false rfl rfl) ?_
                                refine jl_y rfl (by decide) rfl (y_move rfl) ?_
                                refine jl_skip rfl (by decide) rfl ?_
                                refine jl_skip rfl (by decide) rfl ?_
                                refine jl_skip rfl (by decide) rfl ?_
                                refine jl_y rfl (by decide) rfl (y_pick_true rfl rfl) ?_
                                refine jl_y rfl (by decide) rfl (y_move rfl) ?_
                                refine jl_skip rfl (by decide) rfl ?_
                                refine jl_skip rfl (by decide) rfl ?_
                                refine jl_skip rfl (by decide) rfl ?_
                                refine jl_y rfl (by decide) rfl (y_pick_true rfl rfl) ?_
                                refine jl_y rfl (by decide) rfl (y_move rfl) ?_
                                refine jl_skip rfl (by decide) rfl ?_
                                refine jl_skip rfl (by decide) rfl ?_
                                refine jl_skip rfl (by decide) rfl ?_
                                refine jl_skip rfl (by decide) rfl ?_
                                refine jl_skip rfl (by decide) rfl ?_
                                refine jl_skip rfl (by decide) rfl ?_
                                refine jl_skip rfl (by decide) rfl ?_
                                refine jl_skip rfl (by decide) rfl ?_
                                refine jl_y rfl (by decide) rfl (y_pick_true rfl rfl) ?_
                                refine jl_y rfl (by decide) rfl (y_move rfl) ?_
                                refine jl_skip rfl (by decide) rfl ?_
                                refine jl_skip rfl (by decide) rfl ?_
                                refine jl_skip rfl (by decide) rfl ?_
                                refine jl_skip rfl (by decide) rfl ?_
                                refine jl_skip rfl (by decide) rfl ?_
                                refine jl_skip rfl (by decide) rfl ?_
                                refine jl_skip rfl (by decide) rfl ?_
                                refine jl_skip rfl (by decide) rfl ?_
                                refine jl_skip rfl (by decide) rfl ?_
                                refine jl_skip rfl (by decide) rfl ?_
                                refine jl_y rfl (by decide) rfl (y_pick_true rfl rfl) ?_
                                refine jl_y rfl (by decide) rfl (y_move rfl) ?_
                                refine jl_skip rfl (by decide) rfl ?_
                                refine jl_skip rfl (by decide) rfl ?_
                                refine jl_skip rfl (by decide) rfl ?_
                                refine jl_skip rfl (by decide) rfl ?_
                                refine jl_skip rfl (by decide) rfl ?_
                                refine jl_skip rfl (by decide) rfl ?_
                                refine jl_y rfl (by decide) rfl (y_pick_true rfl rfl) ?_
                                refine jl_nil ?_
                                refine jq_then ?_
                                refine jc_true rfl ?_
                                refine jc_seq ?_
                                -- region 23
                                refine jc_region ?_
                                refine jl_y rfl (by decide) rfl (y_assign rfl) ?_
                                refine jl_nil ?_
                                refine jq_then ?_
                                refine jc_ret ?_
                                refine jq_then_ret ?_
                                refine jq_block_ret ?_
                                refine jq_then_ret ?_
                                refine jq_then_ret ?_
                                refine jq_block_ret ?_
                                refine jq_then_ret ?_
                                refine jq_ret1 rfl rfl ?_
                                exact fun _ hw => ⟨rfl, (hallk.next hw (by repeat first | exact ⟨_, mem0, rfl⟩ | exact ⟨_, mem1, rfl⟩ | exact ⟨_, mem2, rfl⟩ | refine List.forall_mem_cons.2 ⟨?_, ?_⟩ | exact fun _ h => absurd h List.not_mem_nil)).ch⟩
                                )
                            · first
                              | (exfalso; omega)
                              | (
                                refine jl_y rfl (by decide) rfl (y_pick_false rfl rfl) ?_
                                refine jl_y rfl (by decide) rfl (y_move rfl) ?_
                                refine jl_y rfl (by decide) rfl (y_move rfl) ?_
                                refine jl_y rfl (by decide) rfl (y_move rfl) ?_
                                refine jl_y rfl (by decide) rfl (y_neq rfl rfl) ?_
                                refine jl_prop (fun h149 => ?_) (fun h149 => ?_)
                                · first
                                  | (exfalso; omega)
                                  | (
                                    refine jl_y rfl (by decide) rfl (y_pick_false rfl rfl) ?_
                                    refine jl_y rfl (by decide) rfl (y_move rfl) ?_
                                    refine jl_skip rfl (by decide) rfl ?_
                                    refine jl_skip rfl (by decide) rfl ?_
                                    refine jl_skip rfl (by decide) rfl ?_
                                    refine jl_y rfl (by decide) rfl (y_pick_true rfl rfl) ?_
                                    refine jl_y rfl (by decide) rfl (y_move rfl) ?_
                                    refine jl_skip rfl (by decide) rfl ?_
                                    refine jl_skip rfl (by decide) rfl ?_
                                    refine jl_skip rfl (by decide) rfl ?_
                                    refine jl_skip rfl (by decide) rfl ?_
                                    refine jl_skip rfl (by decide) rfl ?_
                                    refine jl_skip rfl (by decide) rfl ?_
                                    refine jl_skip rfl (by decide) rfl ?_
                                    refine jl_skip rfl (by decide) rfl ?_
                                    refine jl_y rfl (by decide) rfl (y_pick_true rfl rfl) ?_
                                    refine jl_y rfl (by decide) rfl (y_move rfl) ?_
                                    refine jl_skip rfl (by decide) rfl ?_
                                    refine jl_skip rfl (by decide) rfl ?_
                                    refine jl_skip rfl (by decide) rfl ?_
                                    refine jl_skip rfl (by decide) rfl ?_
                                    refine jl_skip rfl (by decide) rfl ?_
                                    refine jl_skip rfl (by decide) rfl ?_
                                    refine jl_skip rfl (by decide) rfl ?_
                                    refine jl_skip rfl (by decide) rfl ?_
                                    refine jl_skip rfl (by decide) rfl ?_
                                    refine jl_skip rfl (by decide) rfl ?_
                                    refine jl_y rfl (by decide) rfl (y_pick_true rfl rfl) ?_
                                    refine jl_y rfl (by decide) rfl (y_move rfl) ?_
                                    refine jl_skip rfl (by decide) rfl ?_
                                    refine jl_skip rfl (by decide) rfl ?_
                                    refine jl_skip rfl (by decide) rfl ?_
                                    refine jl_skip rfl (by decide) rfl ?_
                                    refine jl_skip rfl (by decide) rfl ?_
                                    refine jl_skip rfl (by decide) rfl ?_
                                    refine jl_y rfl (by decide) rfl (y_pick_true rfl rfl) ?_
                                    refine jl_nil ?_
                                    refine jq_then ?_
                                    refine jc_true rfl ?_
                                    refine jc_seq ?_
                                    -- region 23
                                    refine jc_region ?_
                                    refine jl_y rfl (by decide) rfl (y_assign rfl) ?_
                                    refine jl_nil ?_
                                    refine jq_then ?_
                                    refine jc_ret ?_
                                    refine jq_then_ret ?_
                                    refine jq_block_ret ?_
                                    refine jq_then_ret ?_
                                    refine jq_then_ret ?_
                                    refine jq_block_ret ?_
                                    refine jq_then_ret ?_
                                    refine jq_ret1 rfl rfl ?_
                                    exact fun _ hw => ⟨rfl, (hallk.next hw (by repeat first | exact ⟨_, mem0, rfl⟩ | exact ⟨_, mem1, rfl⟩ | exact ⟨_, mem2, rfl⟩ | refine List.forall_mem_cons.2 ⟨?_, ?_⟩ | exact fun _ h => absurd h List.not_mem_nil)).ch⟩
                                    )
                                · first
                                  | (exfalso; omega)
                                  | (
                                    refine jl_y rfl (by decide) rfl (y_pick_false rfl rfl) ?_
                                    refine jl_y rfl (by decide) rfl (y_move rfl) ?_
                                    refine jl_y rfl (by decide) rfl (y_move rfl) ?_
                                    refine jl_y rfl (by decide) rfl (y_move rfl) ?_
                                    refine jl_y rfl (by decide) rfl (y_leq rfl rfl) ?_
                                    refine jl_prop (fun h154 => ?_) (fun h154 => ?_)
                                    · first
                                      | (exfalso; omega)
                                      | (
                                        refine jl_y rfl (by decide) rfl (y_pick_false rfl rfl) ?_
                                        refine jl_y rfl (by decide) rfl (y_move rfl) ?_
                                        refine jl_skip rfl (by decide) rfl ?_
                                        refine jl_skip rfl (by decide) rfl ?_
                                        refine jl_skip rfl (by decide) rfl ?_
                                        refine jl_skip rfl (by decide) rfl ?_
                                        refine jl_skip rfl (by decide) rfl ?_
                                        refine jl_skip rfl (by decide) rfl ?_
                                        refine jl_skip rfl (by decide) rfl ?_
                                        refine jl_skip rfl (by decide) rfl ?_
                                        refine jl_y rfl (by decide) rfl (y_pick_true rfl rfl) ?_
                                        refine jl_y rfl (by decide) rfl (y_move rfl) ?_
                                        refine jl_skip rfl (by decide) rfl ?_
                                        refine jl_skip rfl (by decide) rfl ?_
                                        refine jl_skip rfl (by decide) rfl ?_
                                        refine jl_skip rfl (by decide) rfl ?_
                                        refine jl_skip rfl (by decide) rfl ?_
                                        refine jl_skip rfl (by decide) rfl ?_
                                        refine jl_skip rfl (by decide) rfl ?_
                                        refine jl_skip rfl (by decide) rfl ?_
                                        refine jl_skip rfl (by decide) rfl ?_
                                        refine jl_skip rfl (by decide) rfl ?_
                                        refine jl_y rfl (by decide) rfl (y_pick_true rfl rfl) ?_
                                        refine jl_y rfl (by decide) rfl (y_move rfl) ?_
                                        refine jl_skip rfl (by decide) rfl ?_
                                        refine jl_skip rfl (by decide) rfl ?_
                                        refine jl_skip rfl (by decide) rfl ?_
                                        refine jl_skip rfl (by decide) rfl ?_
                                        refine jl_skip rfl (by decide) rfl ?_
                                        refine jl_skip rfl (by decide) rfl ?_
                                        refine jl_y rfl (by decide) rfl (y_pick_true rfl rfl) ?_
                                        refine jl_nil ?_
                                        refine jq_then ?_
                                        refine jc_true rfl ?_
                                        refine jc_seq ?_
                                        -- region 23
                                        refine jc_region ?_
                                        refine jl_y rfl (by decide) rfl (y_assign rfl) ?_
                                        refine jl_nil ?_
                                        refine jq_then ?_
                                        refine jc_ret ?_
                                        refine jq_then_ret ?_
                                        refine jq_block_ret ?_
                                        refine jq_then_ret ?_
                                        refine jq_then_ret ?_
                                        refine jq_block_ret ?_
                                        refine jq_then_ret ?_
                                        refine jq_ret1 rfl rfl ?_
                                        exact fun _ hw => ⟨rfl, (hallk.next hw (by repeat first | exact ⟨_, mem0, rfl⟩ | exact ⟨_, mem1, rfl⟩ | exact ⟨_, mem2, rfl⟩ | refine List.forall_mem_cons.2 ⟨?_, ?_⟩ | exact fun _ h => absurd h List.not_mem_nil)).ch⟩
                                        )
                                    · first
                                      | (exfalso; omega)
                                      | (
                                        refine jl_y rfl (by decide) rfl (y_pick_false rfl rfl) ?_
                                        refine jl_y rfl (by decide) rfl (y_move rfl) ?_
                                        refine jl_y rfl (by decide) rfl (y_move rfl) ?_
                                        first | refine jl_y rfl (by decide) rfl (y_nilCheck rfl) ?_ | refine jl_y rfl (by decide) rfl (y_nilCheck_func rfl) ?_
                                        refine jl_y rfl (by decide) rfl (y_fieldAddr rfl) ?_
                                        refine jl_y rfl (by decide) rfl (y_load_old rfl hkk.2.1 hkk.1) ?_
                                        refine jl_pcall rfl (by decide) rfl (goes_func rfl) (fun w1 hw1 => pcall hw1 (cnext_any bk.2 ((sgN h n : Nat) : Int) w1 (CellAt.of_cells (hw1.get (A := .cells bk.2 [.int .i64 ((sgN h n : Nat) : Int), .int .i64 ((2 ^ h : Nat) : Int)]) mem1) rfl))) ?_
                                        refine jl_y rfl (by decide) rfl (y_move rfl) ?_
                                        refine jl_y rfl (by decide) rfl (y_add_fits rfl rfl (by simp only [fits]; omega)) ?_
                                        refine jl_y rfl (by decide) rfl (y_neq rfl rfl) ?_
                                        refine jl_prop (fun h164 => ?_) (fun h164 => ?_)
                                        · first
                                          | (exfalso; omega)
                                          | (
                                            refine jl_y rfl (by decide) rfl (y_pick_false rfl rfl) ?_
                                            refine jl_y rfl (by decide) rfl (y_move rfl) ?_
                                            refine jl_skip rfl (by decide) rfl ?_
                                            refine jl_skip rfl (by decide) rfl ?_
                                            refine jl_skip rfl (by decide) rfl ?_
                                            refine jl_skip rfl (by decide) rfl ?_
                                            refine jl_skip rfl (by decide) rfl ?_
                                            refine jl_skip rfl (by decide) rfl ?_
                                            refine jl_skip rfl (by decide) rfl ?_
                                            refine jl_skip rfl (by decide) rfl ?_
                                            refine jl_skip rfl (by decide) rfl ?_
                                            refine jl_skip rfl (by decide) rfl ?_
                                            refine jl_y rfl (by decide) rfl (y_pick_true rfl rfl) ?_
                                            refine jl_y rfl (by decide) rfl (y_move rfl) ?_
                                            refine jl_skip rfl (by decide) rfl ?_
                                            refine jl_skip rfl (by decide) rfl ?_
                                            refine jl_skip rfl (by decide) rfl ?_
                                            refine jl_skip rfl (by decide) rfl ?_
                                            refine jl_skip rfl (by decide) rfl ?_
                                            refine jl_skip rfl (by decide) rfl ?_
                                            refine jl_y rfl (by decide) rfl (y_pick_true rfl rfl) ?_
                                            refine jl_nil ?_
                                            refine jq_then ?_
                                            refine jc_true rfl ?_
                                            refine jc_seq ?_
                                            -- region 23
                                            refine jc_region ?_
                                            refine jl_y rfl (by decide) rfl (y_assign rfl) ?_
                                            refine jl_nil ?_
                                            refine jq_then ?_
                                            refine jc_ret ?_
                                            refine jq_then_ret ?_
                                            refine jq_block_ret ?_
                                            refine jq_then_ret ?_
                                            refine jq_then_ret ?_
                                            refine jq_block_ret ?_
                                            refine jq_then_ret ?_
                                            refine jq_ret1 rfl rfl ?_
                                            exact fun _ hw => ⟨rfl, (hallk.next hw (by repeat first | exact ⟨_, mem0, rfl⟩ | exact ⟨_, mem1, rfl⟩ | exact ⟨_, mem2, rfl⟩ | refine List.forall_mem_cons.2 ⟨?_, ?_⟩ | exact fun _ h => absurd h List.not_mem_nil)).ch⟩
                                            )
                                        · first
                                          | (exfalso; omega)
                                          | (
                                            refine jl_y rfl (by decide) rfl (y_pick_false rfl rfl) ?_
                                            refine jl_y rfl (by decide) rfl (y_move rfl) ?_
                                            refine jl_y rfl (by decide) rfl (y_move rfl) ?_
                                            first | refine jl_y rfl (by decide) rfl (y_nilCheck rfl) ?_ | refine jl_y rfl (by decide) rfl (y_nilCheck_func rfl) ?_
                                            refine jl_y rfl (by decide) rfl (y_fieldAddr rfl) ?_
                                            refine jl_y rfl (by decide) rfl (y_load_old rfl hkk.2.1 hkk.1) ?_
                                            refine jl_pcall rfl (by decide) rfl (goes_func rfl) (fun w1 hw1 => pcall hw1 (cleft_any bk.2 ((sgN h n : Nat) : Int) ((2 ^ h : Nat) : Int) w1 (CellAt.of_cells (hw1.get (A := .cells bk.2 [.int .i64 ((sgN h n : Nat) : Int), .int .i64 ((2 ^ h : Nat) : Int)]) mem1) rfl) (CellAt.of_cells (hw1.get (A := .cells bk.2 [.int .i64 ((sgN h n : Nat) : Int), .int .i64 ((2 ^ h : Nat) : Int)]) mem1) rfl) (by omega) (by omega) (by omega))) ?_
                                            refine jl_y rfl (by decide) rfl (y_move rfl) ?_
                                            refine jl_y rfl (by decide) rfl (y_move rfl) ?_
                                            refine jl_y rfl (by decide) rfl (y_sub_fits rfl rfl (by simp only [fits]; omega)) ?_
                                            refine jl_y rfl (by decide) rfl (y_sub_fits rfl rfl (by simp only [fits]; omega)) ?_
                                            refine jl_y rfl (by decide) rfl (y_neq rfl rfl) ?_
                                            refine jl_prop (fun h176 => ?_) (fun h176 => ?_)
                                            · first
                                              | (exfalso; omega)
                                              | (
                                                refine jl_y rfl (by decide) rfl (y_pick_false rfl rfl) ?_
                                                refine jl_y rfl (by decide) rfl (y_move rfl) ?_
                                                refine jl_skip rfl (by decide) rfl ?_
                                                refine jl_skip rfl (by decide) rfl ?_
                                                refine jl_skip rfl (by decide) rfl ?_
                                                refine jl_skip rfl (by decide) rfl ?_
                                                refine jl_skip rfl (by decide) rfl ?_
                                                refine jl_skip rfl (by decide) rfl ?_
                                                refine jl_y rfl (by decide) rfl (y_pick_true rfl rfl) ?_
                                                refine jl_nil ?_
                                                refine jq_then ?_
                                                refine jc_true rfl ?_
                                                refine jc_seq ?_
                                                -- region 23
                                                refine jc_region ?_
                                                refine jl_y rfl (by decide) rfl (y_assign rfl) ?_
                                                refine jl_nil ?_
                                                refine jq_then ?_
                                                refine jc_ret ?_
                                                refine jq_then_ret ?_
                                                refine jq_block_ret ?_
                                                refine jq_then_ret ?_
                                                refine jq_then_ret ?_
                                                refine jq_block_ret ?_
                                                refine jq_then_ret ?_
                                                refine jq_ret1 rfl rfl ?_
                                                exact fun _ hw => ⟨rfl, (hallk.next hw (by repeat first | exact ⟨_, mem0, rfl⟩ | exact ⟨_, mem1, rfl⟩ | exact ⟨_, mem2, rfl⟩ | refine List.forall_mem_cons.2 ⟨?_, ?_⟩ | exact fun _ h => absurd h List.not_mem_nil)).ch⟩
                                                )
                                            · first
                                              | (exfalso; omega)
                                              | (
                                                refine jl_y rfl (by decide) rfl (y_pick_false rfl rfl) ?_
                                                refine jl_y rfl (by decide) rfl (y_move rfl) ?_
                                                refine jl_y rfl (by decide) rfl (y_move rfl) ?_
                                                refine jl_pcall rfl (by decide) rfl (goes_func rfl) (fun w1 hw1 => pcall hw1 (kroot_any _ bk.1 bk.2 (cutS seed 100) h w1 (hkk.keep hw1))) ?_
                                                refine jl_y rfl (by decide) rfl (y_move rfl) ?_
                                                refine jl_y rfl (by decide) rfl (y_move rfl) ?_
                                                refine jl_pcall rfl (by decide) rfl (goes_func rfl) (fun w1 hw1 => pcall hw1 (verifyK_any (rootK (cutS seed 100) h) (oneB x) (sgV (cutS seed 100) h n (oneB x)) w1 (by rw [oneB_size]; decide) (by rw [hsb.1, signK_size (cutS seed 100) hnn]; omega))) ?_
                                                refine jl_as (u := .bool true) (congrArg Value.bool (by rw [hsb.1]; exact verK_sign (cutS seed 100) (by omega) hnn (oneB x))) ?_
                                                refine jl_y rfl (by decide) rfl (y_not rfl) ?_
                                                refine jl_y rfl (by decide) rfl (y_pick_false rfl rfl) ?_
                                                refine jl_nil ?_
                                                refine jq_then ?_
                                                refine jc_false rfl ?_
                                                refine jc_skip ?_
                                                refine jq_then ?_
                                                -- region 24
                                                refine jc_region ?_
                                                refine jl_y rfl (by decide) rfl (y_move rfl) ?_
                                                refine jl_y rfl (by decide) rfl (y_assign rfl) ?_
                                                refine jl_nil ?_
                                                refine jq_block ?_
                                                refine jq_then ?_
                                                -- region 9
                                                refine jc_region ?_
                                                refine jl_y rfl (by decide) rfl (y_move rfl) ?_
                                                refine jl_y rfl (by decide) rfl (y_add_fits rfl rfl (by simp only [fits]; omega)) ?_
                                                refine jl_y rfl (by decide) rfl (y_assign rfl) ?_
                                                refine jl_nil ?_
                                                refine jq_round3 (i := i) (j := n) (l := l) (i + 1) (sgN h n) (leafV (sgV (cutS seed 100) h n (oneB x))) ?_ ?_ ?_
                                                · omega
                                                · exact ⟨rfl, rfl, rfl, rfl, lk_int rfl (by omega), trivial⟩
                                                · exact fun _ h2 => ⟨by omega, h2.pop⟩
                                                )
                                            )
                                        )
                                    )
                                )
                            )
                        )
                    )
                )
            · first
              | (exfalso; omega)
              | (
                refine jl_y rfl (by decide) rfl (y_pick_true rfl rfl) ?_
                refine jl_nil ?_
                refine jq_then ?_
                refine jc_false rfl ?_
                refine jc_exit ?_
                refine jq_then_exit ?_
                refine jq_then_exit ?_
                refine jq_hit ?_
                refine jq_then ?_
                refine jc_seq ?_
                -- region 25
                refine jc_region ?_
                refine jl_pcall rfl (by decide) rfl (goes_func rfl) (fun w1 hw1 => pcall hw1 (fixed7_any w1)) ?_
                refine jl_y rfl (by decide) rfl (y_assign rfl) ?_
                refine jl_nil ?_
                refine jq_then ?_
                refine jc_ret ?_
                refine jq_ret1 rfl rfl ?_
                exact fun _ hw => ⟨rfl, (hallk.next hw (by repeat first | exact ⟨_, mem0, rfl⟩ | exact ⟨_, mem1, rfl⟩ | exact ⟨_, mem2, rfl⟩ | refine List.forall_mem_cons.2 ⟨?_, ?_⟩ | exact fun _ h => absurd h List.not_mem_nil)).ch⟩
                )
            )
        · first
          | (exfalso; omega)
          | (
            refine jl_y rfl (by decide) rfl (y_move rfl) ?_
            refine jl_skip rfl (by decide) rfl ?_
            refine jl_skip rfl (by decide) rfl ?_
            refine jl_y rfl (by decide) rfl (y_pick_false rfl rfl) ?_
            refine jl_nil ?_
            refine jq_then ?_
            refine jc_false rfl ?_
            refine jc_exit ?_
            refine jq_then_exit ?_
            refine jq_then_exit ?_
            refine jq_hit ?_
            refine jq_then ?_
            refine jc_seq ?_
            -- region 25
            refine jc_region ?_
            refine jl_pcall rfl (by decide) rfl (goes_func rfl) (fun w1 hw1 => pcall hw1 (fixed7_any w1)) ?_
            refine jl_y rfl (by decide) rfl (y_assign rfl) ?_
            refine jl_nil ?_
            refine jq_then ?_
            refine jc_ret ?_
            refine jq_ret1 rfl rfl ?_
            exact fun _ hw => ⟨rfl, (hallk.next hw (by repeat first | exact ⟨_, mem0, rfl⟩ | exact ⟨_, mem1, rfl⟩ | exact ⟨_, mem2, rfl⟩ | refine List.forall_mem_cons.2 ⟨?_, ?_⟩ | exact fun _ h => absurd h List.not_mem_nil)).ch⟩
            )
      )

theorem merkleOnce_any (seed : ByteArray) (tall : Int) (ad : Option Addr) (c : Nat) (xs : List Int) (w : World) (ht : fits .u8 tall) (hfx : ∀ x ∈ xs, fits .i64 x) (hxs : Ints w ad .i64 xs) : Calls Try.prog 7 #[.string seed, .int .u8 tall, .slice ad xs.length c] w fun e w' => e = .returned (.bool true) ∧ Ch [] w w' :=
  merkleOnce_ok seed tall ad c xs w ht hfx ⟨hxs, fun _ _ _ _ hm => by cases hm⟩
theorem merkleSame_any (seed msg : ByteArray) (x0 x1 : Int) (w : World) (h0 : fits .u8 x0) (h1 : fits .u8 x1) :
    Calls Try.prog 8 #[.string seed, .string msg, .agg #[.int .u8 x0, .int .u8 x1]] w fun e w' => e = .returned (.bool true) ∧ Ch [] w w' := by
  simp only [fits] at h0 h1
  have hcs := cutS_size seed 50
  have hcm := cutS_size msg 50
  obtain ⟨h, hh⟩ : ∃ h : Nat, (h : Int) = x0 % 3 := ⟨(x0 % 3).toNat, by omega⟩
  have hp16 := pow_le16 (h := h) (by omega)
  have e1 := Int.emod_nonneg x1 (show ((2 ^ h : Nat) : Int) ≠ 0 by omega)
  have e2 := Int.emod_lt_of_pos x1 (show 0 < ((2 ^ h : Nat) : Int) by omega)
  obtain ⟨n, hn⟩ : ∃ n : Nat, (n : Int) = x1 % ((2 ^ h : Nat) : Int) := ⟨(x1 % ((2 ^ h : Nat) : Int)).toNat, by omega⟩
  have hnn : n < 2 ^ h := by omega
  have hsn := @sg_ok (cutS seed 50) h n (cutS msg 50) hnn
  have hs2 := hsn.2.1
  have hbo := (@br_ok ((0 : Nat) : Int) ((2 ^ h : Nat) : Int) (n : Nat) ⟨by omega, by omega⟩).1
  have hbn : brN ((0 : Nat) : Int) ((2 ^ h : Nat) : Int) (n : Nat) = ((n : Nat) : Int) := by rw [(br_ok ⟨by omega, by omega⟩).2]; omega
  refine calls_of (n := 144) (E := [(0, .string seed), (1, .string msg), (2, .agg #[.int .u8 x0, .int .u8 x1])]) (W := Hp w [] []) Try.func8 rfl rfl (Nat.le_of_ble_eq_true rfl) rfl (Hp.nil _ _) ?_
  refine jc_seq ?_
  -- region 0
  refine jc_region ?_
  refine jl_m rfl (by decide) rfl (m_box rfl rfl) (fun b5 => ?_)
  refine jl_y rfl (by decide) rfl (y_assign rfl) ?_
  refine jl_nil ?_
  refine jq_then ?_
  refine jc_seq ?_
  -- region 1
  refine jc_draw (by kernel_rfl) (fun _ h => h.drew) ?_
  refine ju_y rfl (by decide) rfl (y_move rfl) ?_
  refine ju_y rfl (by decide) rfl (y_move rfl) ?_
  refine ju_y rfl (by decide) rfl (y_len_str rfl) ?_
  refine ju_y rfl (by decide) rfl (y_min rfl rfl) ?_
  refine ju_y rfl (by decide) rfl (y_substr_hi rfl rfl (by omega) (by omega)) ?_
  refine ju_as (congrArg Value.string (cut_eq _ 50)) ?_
  refine ju_y rfl (by decide) rfl (y_move rfl) ?_
  refine ju_y rfl (by decide) rfl (y_move rfl) ?_
  refine ju_y rfl (by decide) rfl (y_len_str rfl) ?_
  refine ju_y rfl (by decide) rfl (y_min rfl rfl) ?_
  refine ju_y rfl (by decide) rfl (y_substr_hi rfl rfl (by omega) (by omega)) ?_
  refine ju_as (congrArg Value.string (cut_eq _ 50)) ?_
  refine ju_y rfl (by decide) rfl (y_indexAddr_arr rfl rfl (by omega) (by omega) (by simp only [Int.toNat_natCast, Int.reduceSub, Int.reduceAdd, Int.reduceToNat, Nat.reduceMul, Nat.reduceAdd, Nat.zero_add, Nat.mul_one, Nat.zero_mul, Nat.add_zero]; exact rfl)) ?_
  first | refine ju_y rfl (by decide) rfl (y_load rfl (by first | exact mem0 | exact mem1 | exact mem2 | exact mem3 | exact mem4 | exact mem5) rfl) ?_ | refine ju_y rfl (by decide) rfl (y_load_row rfl (by first | exact mem0 | exact mem1 | exact mem2 | exact mem3 | exact mem4 | exact mem5) rfl) ?_ | refine ju_y rfl (by decide) rfl (y_load_old rfl (by assumption) (by simp)) ?_
  first | refine ju_y rfl (by decide) rfl (y_conv_fits rfl (by simp only [fits]; omega)) ?_
  refine ju_y rfl (by decide) rfl (y_rem rfl rfl (by omega) (by omega)) ?_
  refine ju_as (u := .int .i64 ((h : Nat) : Int)) (congrArg (Value.int .i64) hh.symm) ?_
  refine ju_y rfl (by decide) rfl (y_assign rfl) ?_
  refine ju_y rfl (by decide) rfl (y_assign rfl) ?_
  refine ju_y rfl (by decide) rfl (y_assign rfl) ?_
  refine ju_nil ?_
  refine jq_then ?_
  refine jc_seq ?_
  -- region 2
  refine jc_rebase (fun wx hbx => ?_)
  have hx1 : CellO wx [] b5 1 (.int .u8 x1) := ⟨CellAt.of_cells (hbx.get mem0) rfl, by simp⟩
  refine jc_region ?_
  refine jl_y rfl (by decide) rfl (y_move rfl) ?_
  refine jl_y rfl (by decide) rfl (y_move rfl) ?_
  refine jl_ncall rfl (by decide) rfl (goes_func rfl) (fun w1 hw1 => mnew_ok ((cutS seed 50)) (h) w1 (by omega) (by omega)) (fun _ => rfl) (by first | (intro A hA; cases hA; done) | intro A hA k hk; simp only [List.mem_cons, List.not_mem_nil, or_false] at hA; first | (rcases hA with rfl | rfl | rfl <;> (cases hk; simp)) | (rcases hA with rfl | rfl <;> (cases hk; simp)) | (subst hA; cases hk; simp)) (fun ba wpa wa hpa hna hfa => ?_)
  have halla := hna.hp ((Hp.of_ch hbx.ch).next hpa (by repeat first | exact ⟨_, mem0, rfl⟩ | exact ⟨_, mem1, rfl⟩ | exact ⟨_, mem2, rfl⟩ | refine List.forall_mem_cons.2 ⟨?_, ?_⟩ | exact fun _ h => absurd h List.not_mem_nil))
  replace hx1 := hx1.grow hpa hna rfl
  have hka := hfa [] (hpa.feet_lt (by intro k hk; first | (cases hk; done) | (simp only [List.mem_cons, List.not_mem_nil, or_false] at hk; subst hk; exact ⟨_, mem0, rfl⟩)))
  refine jl_y rfl (by decide) rfl (y_move rfl) ?_
  refine jl_y rfl (by decide) rfl (y_extract rfl rfl) ?_
  refine jl_y rfl (by decide) rfl (y_extract rfl rfl) ?_
  refine jl_y rfl (by decide) rfl (y_assign rfl) ?_
  refine jl_y rfl (by decide) rfl (y_assign rfl) ?_
  refine jl_nil ?_
  refine jq_then ?_
  refine jc_seq ?_
  -- region 3
  refine jc_region ?_
  refine jl_y rfl (by decide) rfl (y_move rfl) ?_
  refine jl_y rfl (by decide) rfl (y_move rfl) ?_
  refine jl_ncall rfl (by decide) rfl (goes_func rfl) (fun w1 hw1 => mnew_ok ((cutS seed 50)) (h) w1 (by omega) (by omega)) (fun _ => rfl) (by first | (intro A hA; cases hA; done) | intro A hA k hk; simp only [List.mem_cons, List.not_mem_nil, or_false] at hA; first | (rcases hA with rfl | rfl | rfl <;> (cases hk; simp)) | (rcases hA with rfl | rfl <;> (cases hk; simp)) | (subst hA; cases hk; simp)) (fun bb wpb wb hpb hnb hfb => ?_)
  have hallb := hnb.hp (halla.next hpb (by repeat first | exact ⟨_, mem0, rfl⟩ | exact ⟨_, mem1, rfl⟩ | exact ⟨_, mem2, rfl⟩ | refine List.forall_mem_cons.2 ⟨?_, ?_⟩ | exact fun _ h => absurd h List.not_mem_nil))
  replace hx1 := hx1.grow hpb hnb rfl
  replace hka := hka.grow hpb hnb rfl
  have hkb := hfb [ba.2] (hpb.feet_lt (by intro k hk; first | (cases hk; done) | (simp only [List.mem_cons, List.not_mem_nil, or_false] at hk; subst hk; exact ⟨_, mem0, rfl⟩)))
  refine jl_y rfl (by decide) rfl (y_move rfl) ?_
  refine jl_y rfl (by decide) rfl (y_extract rfl rfl) ?_
  refine jl_y rfl (by decide) rfl (y_extract rfl rfl) ?_
  refine jl_y rfl (by decide) rfl (y_assign rfl) ?_
  refine jl_y rfl (by decide) rfl (y_assign rfl) ?_
  refine jl_nil ?_
  refine jq_then ?_
  refine jc_seq ?_
  refine jc_seq ?_
  -- region 4
  refine jc_region ?_
  refine jl_y rfl (by decide) rfl (y_move rfl) ?_
  refine jl_y rfl (by decide) rfl (y_eql_nil rfl rfl) ?_
  refine jl_as (u := .bool false) rfl ?_
  refine jl_y rfl (by decide) rfl (y_move rfl) ?_
  refine jl_y rfl (by decide) rfl (y_move rfl) ?_
  refine jl_y rfl (by decide) rfl (y_eql_nil rfl rfl) ?_
  refine jl_as (u := .bool false) rfl ?_
  refine jl_y rfl (by decide) rfl (y_pick_false rfl rfl) ?_
  refine jl_y rfl (by decide) rfl (y_move rfl) ?_
  refine jl_y rfl (by decide) rfl (y_move rfl) ?_
  refine jl_y rfl (by decide) rfl (y_neq rfl rfl) ?_
  refine jl_prop (fun h57 => ?_) (fun h57 => ?_)
  · first
    | (exfalso; omega)
    | (
      refine jl_y rfl (by decide) rfl (y_pick_false rfl rfl) ?_
      refine jl_y rfl (by decide) rfl (y_move rfl) ?_
      refine jl_skip rfl (by decide) rfl ?_
      refine jl_skip rfl (by decide) rfl ?_
      refine jl_y rfl (by decide) rfl (y_pick_true rfl rfl) ?_
      refine jl_y rfl (by decide) rfl (y_move rfl) ?_
      refine jl_skip rfl (by decide) rfl ?_
      refine jl_skip rfl (by decide) rfl ?_
      refine jl_skip rfl (by decide) rfl ?_
      refine jl_skip rfl (by decide) rfl ?_
      refine jl_skip rfl (by decide) rfl ?_
      refine jl_y rfl (by decide) rfl (y_pick_true rfl rfl) ?_
      refine jl_nil ?_
      refine jq_then ?_
      refine jc_true rfl ?_
      refine jc_seq ?_
      -- region 5
      refine jc_region ?_
      refine jl_y rfl (by decide) rfl (y_assign rfl) ?_
      refine jl_nil ?_
      refine jq_then ?_
      refine jc_ret ?_
      refine jq_then_ret ?_
      refine jq_ret1 rfl rfl ?_
      exact fun _ hw => ⟨rfl, (hallb.next hw (by repeat first | exact ⟨_, mem0, rfl⟩ | exact ⟨_, mem1, rfl⟩ | exact ⟨_, mem2, rfl⟩ | refine List.forall_mem_cons.2 ⟨?_, ?_⟩ | exact fun _ h => absurd h List.not_mem_nil)).ch⟩
      )
  · first
    | (exfalso; omega)
    | (
      refine jl_y rfl (by decide) rfl (y_pick_false rfl rfl) ?_
      refine jl_y rfl (by decide) rfl (y_move rfl) ?_
      refine jl_y rfl (by decide) rfl (y_move rfl) ?_
      refine jl_y rfl (by decide) rfl (y_neq rfl rfl) ?_
      refine jl_prop (fun h61 => ?_) (fun h61 => ?_)
      · first
        | (exfalso; omega)
        | (
          refine jl_y rfl (by decide) rfl (y_pick_false rfl rfl) ?_
          refine jl_y rfl (by decide) rfl (y_move rfl) ?_
          refine jl_skip rfl (by decide) rfl ?_
          refine jl_skip rfl (by decide) rfl ?_
          refine jl_skip rfl (by decide) rfl ?_
          refine jl_skip rfl (by decide) rfl ?_
          refine jl_skip rfl (by decide) rfl ?_
          refine jl_y rfl (by decide) rfl (y_pick_true rfl rfl) ?_
          refine jl_nil ?_
          refine jq_then ?_
          refine jc_true rfl ?_
          refine jc_seq ?_
          -- region 5
          refine jc_region ?_
          refine jl_y rfl (by decide) rfl (y_assign rfl) ?_
          refine jl_nil ?_
          refine jq_then ?_
          refine jc_ret ?_
          refine jq_then_ret ?_
          refine jq_ret1 rfl rfl ?_
          exact fun _ hw => ⟨rfl, (hallb.next hw (by repeat first | exact ⟨_, mem0, rfl⟩ | exact ⟨_, mem1, rfl⟩ | exact ⟨_, mem2, rfl⟩ | refine List.forall_mem_cons.2 ⟨?_, ?_⟩ | exact fun _ h => absurd h List.not_mem_nil)).ch⟩
          )
      · first
        | (exfalso; omega)
        | (
          refine jl_y rfl (by decide) rfl (y_pick_false rfl rfl) ?_
          refine jl_y rfl (by decide) rfl (y_move rfl) ?_
          refine jl_y rfl (by decide) rfl (y_move rfl) ?_
          refine jl_pcall rfl (by decide) rfl (goes_func rfl) (fun w1 hw1 => pcall hw1 (kroot_any _ ba.1 ba.2 (cutS seed 50) h w1 (hka.keep hw1))) ?_
          refine jl_y rfl (by decide) rfl (y_move rfl) ?_
          refine jl_pcall rfl (by decide) rfl (goes_func rfl) (fun w1 hw1 => pcall hw1 (kroot_any _ bb.1 bb.2 (cutS seed 50) h w1 (hkb.keep hw1))) ?_
          refine jl_y rfl (by decide) rfl (y_sneq rfl rfl) ?_
          refine jl_as (u := .bool false) (congrArg (fun b => Value.bool (!b)) (decide_eq_true (rfl))) ?_
          refine jl_y rfl (by decide) rfl (y_pick_false rfl rfl) ?_
          refine jl_nil ?_
          refine jq_then ?_
          refine jc_false rfl ?_
          refine jc_skip ?_
          refine jq_then ?_
          refine jc_seq ?_
          -- region 6
          refine jc_draw (by kernel_rfl) (fun _ h => h.drew) ?_
          refine ju_y rfl (by decide) rfl (y_indexAddr_arr rfl rfl (by omega) (by omega) (by simp only [Int.toNat_natCast, Int.reduceSub, Int.reduceAdd, Int.reduceToNat, Nat.reduceMul, Nat.reduceAdd, Nat.zero_add, Nat.mul_one, Nat.zero_mul, Nat.add_zero]; exact rfl)) ?_
          refine ju_y rfl (by decide) rfl (y_load_old rfl hx1.1 hx1.2) ?_
          first | refine ju_y rfl (by decide) rfl (y_conv_fits rfl (by simp only [fits]; omega)) ?_
          refine ju_y rfl (by decide) rfl (y_move rfl) ?_
          refine ju_y rfl (by decide) rfl (y_shl_fits (p := 1) (q := ((h : Nat) : Int)) rfl rfl (by omega) (by simp only [IntKind.bits]; omega) (by rw [pow_two]; simp only [fits]; omega)) ?_
          refine ju_as (u := .int .i64 ((2 ^ h : Nat) : Int)) (congrArg _ pow_two) ?_
          refine ju_y rfl (by decide) rfl (y_rem rfl rfl (by omega) (by omega)) ?_
          refine ju_as (u := .int .i64 ((n : Nat) : Int)) (congrArg (Value.int .i64) hn.symm) ?_
          refine ju_y rfl (by decide) rfl (y_assign rfl) ?_
          refine ju_nil ?_
          refine jq_then ?_
          refine jc_seq ?_
          refine jc_seq ?_
          -- region 7
          refine jc_region ?_
          refine jl_y rfl (by decide) rfl (y_assign rfl) ?_
          refine jl_nil ?_
          refine jq_then ?_
          refine jc_block ?_
          -- a loop
          refine jc_loop (fun (i : Nat) => [(8, .string (cutS msg 50)), (10, .pointer (some ⟨ba.1, 0, none⟩)), (12, .pointer (some ⟨bb.1, 0, none⟩)), (14, .int .i64 ((n : Nat) : Int)), (15, .int .i64 (i : Nat))]) (fun (i : Nat) => fun w' => i ≤ n ∧ Hp wb [bb.2, ba.2] [.cells bb.2 [.int .i64 ((0 : Nat) : Int), .int .i64 ((2 ^ h : Nat) : Int)], .cells ba.2 [.int .i64 ((i : Nat) : Int), .int .i64 ((2 ^ h : Nat) : Int)]] w') (fun (i : Nat) => n - i) 0 ?_ ?_ ?_
          · exact ⟨rfl, rfl, rfl, rfl, rfl, trivial⟩
          · exact fun _ h => ⟨by omega, h⟩
          · intro i
            refine jc_and (fun hi => ?_)
            refine jc_seq ?_
            refine jc_seq ?_
            -- region 8
            refine jc_region ?_
            refine jl_y rfl (by decide) rfl (y_move rfl) ?_
            refine jl_y rfl (by decide) rfl (y_move rfl) ?_
            refine jl_y rfl (by decide) rfl (y_lss rfl rfl) ?_
            refine jl_prop (fun h78 => ?_) (fun h78 => ?_)
            · first
              | (exfalso; omega)
              | (
                have hsi := @sg_ok (cutS seed 50) h i sOther (by omega)
                have hsi2 := hsi.2.1
                refine jl_nil ?_
                refine jq_then ?_
                refine jc_true rfl ?_
                refine jc_skip ?_
                refine jq_then ?_
                refine jc_seq ?_
                refine jc_block ?_
                refine jc_seq ?_
                -- region 10
                refine jc_region ?_
                refine jl_y rfl (by decide) rfl (y_move rfl) ?_
                refine jl_ucallH rfl (by decide) rfl (goes_func rfl) (by rfl) (fun w1 hw1 => ksign_all [bb.2, ba.2] ba.1 ba.2 ((cutS seed 50)) (h) w1 (hka.keep hw1) (by simp) (by omega) (by omega) (sOther) (by first | decide | omega) (i) (hw1.get mem1)) (by first | exact rep0 | exact rep1 | exact rep2 | exact rep3 | exact rep4) ?_
                refine jl_y rfl (by decide) rfl (y_move rfl) ?_
                refine jl_y rfl (by decide) rfl (y_extract rfl rfl) ?_
                refine jl_y rfl (by decide) rfl (y_extract rfl rfl) ?_
                refine jl_y rfl (by decide) rfl (y_assign rfl) ?_
                refine jl_y rfl (by decide) rfl (y_assign rfl) ?_
                refine jl_nil ?_
                refine jq_then ?_
                refine jc_seq ?_
                -- region 11
                refine jc_region ?_
                refine jl_y rfl (by decide) rfl (y_move rfl) ?_
                refine jl_y rfl (by decide) rfl (y_neq rfl rfl) ?_
                refine jl_prop (fun h87 => ?_) (fun h87 => ?_)
                · first
                  | (exfalso; omega)
                  | (
                    refine jl_nil ?_
                    refine jq_then ?_
                    refine jc_true rfl ?_
                    refine jc_seq ?_
                    -- region 12
                    refine jc_region ?_
                    refine jl_y rfl (by decide) rfl (y_assign rfl) ?_
                    refine jl_nil ?_
                    refine jq_then ?_
                    refine jc_ret ?_
                    refine jq_block_ret ?_
                    refine jq_then_ret ?_
                    refine jq_then_ret ?_
                    refine jq_block_ret ?_
                    refine jq_then_ret ?_
                    refine jq_ret1 rfl rfl ?_
                    exact fun _ hw => ⟨rfl, (hallb.next hw (by repeat first | exact ⟨_, mem0, rfl⟩ | exact ⟨_, mem1, rfl⟩ | exact ⟨_, mem2, rfl⟩ | refine List.forall_mem_cons.2 ⟨?_, ?_⟩ | exact fun _ h => absurd h List.not_mem_nil)).ch⟩
                    )
                · first
                  | (exfalso; omega)
                  | (
                    refine jl_nil ?_
                    refine jq_then ?_
                    refine jc_false rfl ?_
                    refine jc_skip ?_
                    refine jq_block ?_
                    refine jq_then ?_
                    -- region 9
                    refine jc_region ?_
                    refine jl_y rfl (by decide) rfl (y_move rfl) ?_
                    refine jl_y rfl (by decide) rfl (y_add_fits rfl rfl (by simp only [fits]; omega)) ?_
                    refine jl_y rfl (by decide) rfl (y_assign rfl) ?_
                    refine jl_nil ?_
                    refine jq_round (i := i) (i + 1) ?_ ?_ ?_
                    · omega
                    · exact ⟨rfl, rfl, rfl, rfl, lk_int rfl (by omega), trivial⟩
                    · exact fun _ h2 => ⟨by omega, h2.cast (by rw [hsi.2.2])⟩
                    )
                )
            · first
              | (exfalso; omega)
              | (
                refine jl_nil ?_
                refine jq_then ?_
                refine jc_false rfl ?_
                refine jc_exit ?_
                refine jq_then_exit ?_
                refine jq_then_exit ?_
                refine jq_hit ?_
                refine jq_then ?_
                refine jc_seq ?_
                -- region 13
                have hin : i = n := by omega
                subst hin
                refine jc_region ?_
                refine jl_y rfl (by decide) rfl (y_move rfl) ?_
                first | refine jl_y rfl (by decide) rfl (y_nilCheck rfl) ?_ | refine jl_y rfl (by decide) rfl (y_nilCheck_func rfl) ?_
                refine jl_y rfl (by decide) rfl (y_fieldAddr rfl) ?_
                refine jl_y rfl (by decide) rfl (y_load_old rfl hkb.2.1 hkb.1) ?_
                refine jl_y rfl (by decide) rfl (y_move rfl) ?_
                refine jl_ucallH rfl (by decide) rfl (goes_func rfl) (by rfl) (fun w1 hw1 => burn_all bb.2 ((0 : Nat) : Int) ((2 ^ h : Nat) : Int) ((i : Nat) : Int) w1 (hw1.get mem0)) (by first | exact rep0 | exact rep1 | exact rep2 | exact rep3 | exact rep4) ?_
                refine jl_y rfl (by decide) rfl (y_assign rfl) ?_
                refine jl_nil ?_
                refine jq_then ?_
                refine jc_seq ?_
                -- region 14
                refine jc_world (fun _ h2 => h2.cast (H' := [.cells bb.2 [.int .i64 ((i : Nat) : Int), .int .i64 ((2 ^ h : Nat) : Int)], .cells ba.2 [.int .i64 ((i : Nat) : Int), .int .i64 ((2 ^ h : Nat) : Int)]]) (by rw [hbn])) ?_
                refine jc_region ?_
                refine jl_y rfl (by decide) rfl (y_move rfl) ?_
                refine jl_y rfl (by decide) rfl (y_move rfl) ?_
                refine jl_ucallH rfl (by decide) rfl (goes_func rfl) (by rfl) (fun w1 hw1 => ksign_all [bb.2, ba.2] ba.1 ba.2 ((cutS seed 50)) (h) w1 (hka.keep hw1) (by simp) (by omega) (by omega) ((cutS msg 50)) (by first | decide | omega) (i) (hw1.get mem1)) (by first | exact rep0 | exact rep1 | exact rep2 | exact rep3 | exact rep4) ?_
                refine jl_y rfl (by decide) rfl (y_move rfl) ?_
                refine jl_y rfl (by decide) rfl (y_extract rfl rfl) ?_
                refine jl_y rfl (by decide) rfl (y_extract rfl rfl) ?_
                refine jl_y rfl (by decide) rfl (y_assign rfl) ?_
                refine jl_y rfl (by decide) rfl (y_assign rfl) ?_
                refine jl_nil ?_
                refine jq_then ?_
                refine jc_seq ?_
                -- region 15
                refine jc_region ?_
                refine jl_y rfl (by decide) rfl (y_move rfl) ?_
                refine jl_y rfl (by decide) rfl (y_move rfl) ?_
                refine jl_ucallH rfl (by decide) rfl (goes_func rfl) (by rfl) (fun w1 hw1 => ksign_all [bb.2, ba.2] bb.1 bb.2 ((cutS seed 50)) (h) w1 (hkb.keep hw1) (by simp) (by omega) (by omega) ((cutS msg 50)) (by first | decide | omega) (i) (hw1.get mem0)) (by first | exact rep0 | exact rep1 | exact rep2 | exact rep3 | exact rep4) ?_
                refine jl_y rfl (by decide) rfl (y_move rfl) ?_
                refine jl_y rfl (by decide) rfl (y_extract rfl rfl) ?_
                refine jl_y rfl (by decide) rfl (y_extract rfl rfl) ?_
                refine jl_y rfl (by decide) rfl (y_assign rfl) ?_
                refine jl_y rfl (by decide) rfl (y_assign rfl) ?_
                refine jl_nil ?_
                refine jq_then ?_
                refine jc_seq ?_
                -- region 16
                refine jc_draw (by kernel_rfl) (fun _ h => h.drew) ?_
                refine ju_y rfl (by decide) rfl (y_move rfl) ?_
                refine ju_y rfl (by decide) rfl (y_eql rfl rfl) ?_
                refine ju_prop (fun h107 => ?_) (fun h107 => ?_)
                · first
                  | (exfalso; omega)
                  | (
                    refine ju_y rfl (by decide) rfl (y_move rfl) ?_
                    refine ju_y rfl (by decide) rfl (y_move rfl) ?_
                    refine ju_y rfl (by decide) rfl (y_eql rfl rfl) ?_
                    refine ju_prop (fun h110 => ?_) (fun h110 => ?_)
                    · first
                      | (exfalso; omega)
                      | (
                        refine ju_y rfl (by decide) rfl (y_pick_true rfl rfl) ?_
                        refine ju_y rfl (by decide) rfl (y_move rfl) ?_
                        refine ju_y rfl (by decide) rfl (y_move rfl) ?_
                        refine ju_y rfl (by decide) rfl (y_eql rfl rfl) ?_
                        refine ju_prop (fun h114 => ?_) (fun h114 => ?_)
                        · first
                          | (exfalso; omega)
                          | (
                            refine ju_y rfl (by decide) rfl (y_pick_true rfl rfl) ?_
                            refine ju_y rfl (by decide) rfl (y_move rfl) ?_
                            refine ju_y rfl (by decide) rfl (y_move rfl) ?_
                            refine ju_y rfl (by decide) rfl (y_move rfl) ?_
                            refine ju_y rfl (by decide) rfl (y_seql rfl rfl) ?_
                            refine ju_as (u := .bool true) (congrArg (fun b => Value.bool b) (decide_eq_true (rfl))) ?_
                            refine ju_y rfl (by decide) rfl (y_pick_true rfl rfl) ?_
                            refine ju_y rfl (by decide) rfl (y_move rfl) ?_
                            refine ju_y rfl (by decide) rfl (y_move rfl) ?_
                            refine ju_call rfl (by decide) rfl (goes_func rfl) (fun w1 hw1 => pcall hw1 (kroot_any _ ba.1 ba.2 (cutS seed 50) h w1 (hka.keep hw1))) ?_
                            refine ju_y rfl (by decide) rfl (y_move rfl) ?_
                            refine ju_y rfl (by decide) rfl (y_move rfl) ?_
                            refine ju_call rfl (by decide) rfl (goes_func rfl) (fun w1 hw1 => pcall hw1 (verifyK_any (rootK (cutS seed 50) h) (cutS msg 50) (sgV (cutS seed 50) h i (cutS msg 50)) w1 (by omega) (by rw [hsn.1, signK_size (cutS seed 50) hnn]; omega))) ?_
                            refine ju_as (u := .bool true) (congrArg Value.bool (by rw [hsn.1]; exact verK_sign (cutS seed 50) (by omega) hnn (cutS msg 50))) ?_
                            refine ju_y rfl (by decide) rfl (y_pick_true rfl rfl) ?_
                            refine ju_y rfl (by decide) rfl (y_move rfl) ?_
                            refine ju_y rfl (by decide) rfl (y_move rfl) ?_
                            first | refine ju_y rfl (by decide) rfl (y_nilCheck rfl) ?_ | refine ju_y rfl (by decide) rfl (y_nilCheck_func rfl) ?_
                            refine ju_y rfl (by decide) rfl (y_fieldAddr rfl) ?_
                            refine ju_y rfl (by decide) rfl (y_load_old rfl hka.2.1 hka.1) ?_
                            refine ju_call rfl (by decide) rfl (goes_func rfl) (fun w1 hw1 => pcall hw1 (cleft_any ba.2 ((sgN h i : Nat) : Int) ((2 ^ h : Nat) : Int) w1 (CellAt.of_cells (hw1.get (A := .cells ba.2 [.int .i64 ((sgN h i : Nat) : Int), .int .i64 ((2 ^ h : Nat) : Int)]) mem1) rfl) (CellAt.of_cells (hw1.get (A := .cells ba.2 [.int .i64 ((sgN h i : Nat) : Int), .int .i64 ((2 ^ h : Nat) : Int)]) mem1) rfl) (by omega) (by rw [hsn.2.2]; omega) (by omega))) ?_
                            refine ju_y rfl (by decide) rfl (y_move rfl) ?_
                            first | refine ju_y rfl (by decide) rfl (y_nilCheck rfl) ?_ | refine ju_y rfl (by decide) rfl (y_nilCheck_func rfl) ?_
                            refine ju_y rfl (by decide) rfl (y_fieldAddr rfl) ?_
                            refine ju_y rfl (by decide) rfl (y_load_old rfl hkb.2.1 hkb.1) ?_
                            refine ju_call rfl (by decide) rfl (goes_func rfl) (fun w1 hw1 => pcall hw1 (cleft_any bb.2 ((sgN h i : Nat) : Int) ((2 ^ h : Nat) : Int) w1 (CellAt.of_cells (hw1.get (A := .cells bb.2 [.int .i64 ((sgN h i : Nat) : Int), .int .i64 ((2 ^ h : Nat) : Int)]) mem0) rfl) (CellAt.of_cells (hw1.get (A := .cells bb.2 [.int .i64 ((sgN h i : Nat) : Int), .int .i64 ((2 ^ h : Nat) : Int)]) mem0) rfl) (by omega) (by rw [hsn.2.2]; omega) (by omega))) ?_
                            refine ju_y rfl (by decide) rfl (y_eql rfl rfl) ?_
                            refine ju_prop (fun h139 => ?_) (fun h139 => ?_)
                            · first
                              | (exfalso; omega)
                              | (
                                refine ju_y rfl (by decide) rfl (y_pick_true rfl rfl) ?_
                                refine ju_y rfl (by decide) rfl (y_move rfl) ?_
                                refine ju_call rfl (by decide) rfl (goes_func rfl) (fun w1 hw1 => pcall hw1 (fixed7_any w1)) ?_
                                refine ju_y rfl (by decide) rfl (y_pick_true rfl rfl) ?_
                                refine ju_y rfl (by decide) rfl (y_assign rfl) ?_
                                refine ju_nil ?_
                                refine jq_then ?_
                                refine jc_ret ?_
                                refine jq_ret1 rfl rfl ?_
                                exact fun _ hw => ⟨rfl, (hallb.next hw (by repeat first | exact ⟨_, mem0, rfl⟩ | exact ⟨_, mem1, rfl⟩ | exact ⟨_, mem2, rfl⟩ | refine List.forall_mem_cons.2 ⟨?_, ?_⟩ | exact fun _ h => absurd h List.not_mem_nil)).ch⟩
                                )
                            · first
                              | (exfalso; omega)
                              | (
                                refine ju_y rfl (by decide) rfl (y_pick_true rfl rfl) ?_
                                refine ju_y rfl (by decide) rfl (y_move rfl) ?_
                                refine ju_skip rfl (by decide) rfl ?_
                                refine ju_y rfl (by decide) rfl (y_pick_false rfl rfl) ?_
                                refine ju_y rfl (by decide) rfl (y_assign rfl) ?_
                                refine ju_nil ?_
                                refine jq_then ?_
                                refine jc_ret ?_
                                refine jq_ret1 rfl rfl ?_
                                exact fun _ hw => ⟨rfl, (hallb.next hw (by repeat first | exact ⟨_, mem0, rfl⟩ | exact ⟨_, mem1, rfl⟩ | exact ⟨_, mem2, rfl⟩ | refine List.forall_mem_cons.2 ⟨?_, ?_⟩ | exact fun _ h => absurd h List.not_mem_nil)).ch⟩
                                )
                            )
                        · first
                          | (exfalso; omega)
                          | (
                            refine ju_y rfl (by decide) rfl (y_pick_true rfl rfl) ?_
                            refine ju_y rfl (by decide) rfl (y_move rfl) ?_
                            refine ju_skip rfl (by decide) rfl ?_
                            refine ju_skip rfl (by decide) rfl ?_
                            refine ju_skip rfl (by decide) rfl ?_
                            refine ju_y rfl (by decide) rfl (y_pick_false rfl rfl) ?_
                            refine ju_y rfl (by decide) rfl (y_move rfl) ?_
                            refine ju_skip rfl (by decide) rfl ?_
                            refine ju_skip rfl (by decide) rfl ?_
                            refine ju_skip rfl (by decide) rfl ?_
                            refine ju_skip rfl (by decide) rfl ?_
                            refine ju_skip rfl (by decide) rfl ?_
                            refine ju_y rfl (by decide) rfl (y_pick_false rfl rfl) ?_
                            refine ju_y rfl (by decide) rfl (y_move rfl) ?_
                            refine ju_skip rfl (by decide) rfl ?_
                            refine ju_skip rfl (by decide) rfl ?_
                            refine ju_skip rfl (by decide) rfl ?_
                            refine ju_skip rfl (by decide) rfl ?_
                            refine ju_skip rfl (by decide) rfl ?_
                            refine ju_skip rfl (by decide) rfl ?_
                            refine ju_skip rfl (by decide) rfl ?_
                            refine ju_skip rfl (by decide) rfl ?_
                            refine ju_skip rfl (by decide) rfl ?_
                            refine ju_skip rfl (by decide) rfl ?_
                            refine ju_skip rfl (by decide) rfl ?_
                            refine ju_y rfl (by decide) rfl (y_pick_false rfl rfl) ?_
                            refine ju_y rfl (by decide) rfl (y_move rfl) ?_
                            refine ju_skip rfl (by decide) rfl ?_
                            refine ju_y rfl (by decide) rfl (y_pick_false rfl rfl) ?_
                            refine ju_y rfl (by decide) rfl (y_assign rfl) ?_
                            refine ju_nil ?_
                            refine jq_then ?_
                            refine jc_ret ?_
                            refine jq_ret1 rfl rfl ?_
                            exact fun _ hw => ⟨rfl, (hallb.next hw (by repeat first | exact ⟨_, mem0, rfl⟩ | exact ⟨_, mem1, rfl⟩ | exact ⟨_, mem2, rfl⟩ | refine List.forall_mem_cons.2 ⟨?_, ?_⟩ | exact fun _ h => absurd h List.not_mem_nil)).ch⟩
                            )
                        )
                    · first
                      | (exfalso; omega)
                      | (
                        refine ju_y rfl (by decide) rfl (y_pick_true rfl rfl) ?_
                        refine ju_y rfl (by decide) rfl (y_move rfl) ?_
                        refine ju_skip rfl (by decide) rfl ?_
                        refine ju_skip rfl (by decide) rfl ?_
                        refine ju_y rfl (by decide) rfl (y_pick_false rfl rfl) ?_
                        refine ju_y rfl (by decide) rfl (y_move rfl) ?_
                        refine ju_skip rfl (by decide) rfl ?_
                        refine ju_skip rfl (by decide) rfl ?_
                        refine ju_skip rfl (by decide) rfl ?_
                        refine ju_y rfl (by decide) rfl (y_pick_false rfl rfl) ?_
                        refine ju_y rfl (by decide) rfl (y_move rfl) ?_
                        refine ju_skip rfl (by decide) rfl ?_
                        refine ju_skip rfl (by decide) rfl ?_
                        refine ju_skip rfl (by decide) rfl ?_
                        refine ju_skip rfl (by decide) rfl ?_
                        refine ju_skip rfl (by decide) rfl ?_
                        refine ju_y rfl (by decide) rfl (y_pick_false rfl rfl) ?_
                        refine ju_y rfl (by decide) rfl (y_move rfl) ?_
                        refine ju_skip rfl (by decide) rfl ?_
                        refine ju_skip rfl (by decide) rfl ?_
                        refine ju_skip rfl (by decide) rfl ?_
                        refine ju_skip rfl (by decide) rfl ?_
                        refine ju_skip rfl (by decide) rfl ?_
                        refine ju_skip rfl (by decide) rfl ?_
                        refine ju_skip rfl (by decide) rfl ?_
                        refine ju_skip rfl (by decide) rfl ?_
                        refine ju_skip rfl (by decide) rfl ?_
                        refine ju_skip rfl (by decide) rfl ?_
                        refine ju_skip rfl (by decide) rfl ?_
                        refine ju_y rfl (by decide) rfl (y_pick_false rfl rfl) ?_
                        refine ju_y rfl (by decide) rfl (y_move rfl) ?_
                        refine ju_skip rfl (by decide) rfl ?_
                        refine ju_y rfl (by decide) rfl (y_pick_false rfl rfl) ?_
                        refine ju_y rfl (by decide) rfl (y_assign rfl) ?_
                        refine ju_nil ?_
                        refine jq_then ?_
                        refine jc_ret ?_
                        refine jq_ret1 rfl rfl ?_
                        exact fun _ hw => ⟨rfl, (hallb.next hw (by repeat first | exact ⟨_, mem0, rfl⟩ | exact ⟨_, mem1, rfl⟩ | exact ⟨_, mem2, rfl⟩ | refine List.forall_mem_cons.2 ⟨?_, ?_⟩ | exact fun _ h => absurd h List.not_mem_nil)).ch⟩
                        )
                    )
                · first
                  | (exfalso; omega)
                  | (
                    refine ju_y rfl (by decide) rfl (y_move rfl) ?_
                    refine ju_skip rfl (by decide) rfl ?_
                    refine ju_skip rfl (by decide) rfl ?_
                    refine ju_y rfl (by decide) rfl (y_pick_false rfl rfl) ?_
                    refine ju_y rfl (by decide) rfl (y_move rfl) ?_
                    refine ju_skip rfl (by decide) rfl ?_
                    refine ju_skip rfl (by decide) rfl ?_
                    refine ju_y rfl (by decide) rfl (y_pick_false rfl rfl) ?_
                    refine ju_y rfl (by decide) rfl (y_move rfl) ?_
                    refine ju_skip rfl (by decide) rfl ?_
                    refine ju_skip rfl (by decide) rfl ?_
                    refine ju_skip rfl (by decide) rfl ?_
                    refine ju_y rfl (by decide) rfl (y_pick_false rfl rfl) ?_
                    refine ju_y rfl (by decide) rfl (y_move rfl) ?_
                    refine ju_skip rfl (by decide) rfl ?_
                    refine ju_skip rfl (by decide) rfl ?_
                    refine ju_skip rfl (by decide) rfl ?_
                    refine ju_skip rfl (by decide) rfl ?_
                    refine ju_skip rfl (by decide) rfl ?_
                    refine ju_y rfl (by decide) rfl (y_pick_false rfl rfl) ?_
                    refine ju_y rfl (by decide) rfl (y_move rfl) ?_
                    refine ju_skip rfl (by decide) rfl ?_
                    refine ju_skip rfl (by decide) rfl ?_
                    refine ju_skip rfl (by decide) rfl ?_
                    refine ju_skip rfl (by decide) rfl ?_
                    refine ju_skip rfl (by decide) rfl ?_
                    refine ju_skip rfl (by decide) rfl ?_
                    refine ju_skip rfl (by decide) rfl ?_
                    refine ju_skip rfl (by decide) rfl ?_
                    refine ju_skip rfl (by decide) rfl ?_
                    refine ju_skip rfl (by decide) rfl ?_
                    refine ju_skip rfl (by decide) rfl ?_
                    refine ju_y rfl (by decide) rfl (y_pick_false rfl rfl) ?_
                    refine ju_y rfl (by decide) rfl (y_move rfl) ?_
                    refine ju_skip rfl (by decide) rfl ?_
                    refine ju_y rfl (by decide) rfl (y_pick_false rfl rfl) ?_
                    refine ju_y rfl (by decide) rfl (y_assign rfl) ?_
                    refine ju_nil ?_
                    refine jq_then ?_
                    refine jc_ret ?_
                    refine jq_ret1 rfl rfl ?_
                    exact fun _ hw => ⟨rfl, (hallb.next hw (by repeat first | exact ⟨_, mem0, rfl⟩ | exact ⟨_, mem1, rfl⟩ | exact ⟨_, mem2, rfl⟩ | refine List.forall_mem_cons.2 ⟨?_, ?_⟩ | exact fun _ h => absurd h List.not_mem_nil)).ch⟩
                    )
                )
          )
      )

end Go.Proofs.Ytbemnhllcpopbaa