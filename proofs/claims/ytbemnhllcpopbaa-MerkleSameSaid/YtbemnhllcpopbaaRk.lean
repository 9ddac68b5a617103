/- The walks of package turnstileref07. Written by program (walk.py) out of a table of contracts and invariants. -/
import Derived.Test.YtbemnhllcpopbaaMk2
import Derived.Test.YtbemnhllcpopbaaRf
namespace Go.Proofs.Ytbemnhllcpopbaa
open Go.RowKit
set_option maxRecDepth 100000
set_option linter.unusedVariables false
set_option linter.unusedSimpArgs false
def tallV (l : List ByteArray) : Int := if okL l then (tallL l : Nat) else -1
theorem tallV_ok {l : List ByteArray} (h : okL l) : tallV l = (tallL l : Nat) := by unfold tallV; rw [if_pos h]
theorem tallV_bad {l : List ByteArray} (h : ¬ okL l) : tallV l = -1 := by unfold tallV; rw [if_neg h]
theorem tallV_odd {l : List ByteArray} {i : Nat} (hi : i < l.length) (h : (at0 l i).size ≠ 16) : tallV l = -1 := tallV_bad fun h2 => h (h2.2 _ (at0_mem hi))
theorem all16 {l : List ByteArray} {i : Nat} (h : ∀ j, j < i → (at0 l j).size = 16) (hi : i = l.length) : ∀ p ∈ l, p.size = 16 := fun p hp => by
  obtain ⟨j, hj⟩ := List.getElem?_of_mem hp
  have hl := (List.getElem?_eq_some_iff.1 hj).1
  have := h j (by omega)
  rwa [at0_eq hj] at this
theorem tallV_eq {l : List ByteArray} {n h : Nat} (hs : ∀ p ∈ l, p.size = 16) (hn : l.length = n) (hok : okN n) (ht : tallN n = h) : tallV l = ((h : Nat) : Int) := by
  rw [tallV_ok ⟨by rw [hn]; exact hok, hs⟩, tallL, hn, ht]
theorem tallV_none {l : List ByteArray} (h : ¬ okN l.length) : tallV l = -1 := tallV_bad fun h2 => h h2.1

theorem r7one_any (n : Int) (w : World) :
    Calls Try.prog 35 #[.int .i64 n] w fun e w' => e = .returned (.string (oneB n)) ∧ Ch [] w w' := by
  refine calls_of (n := 7) (E := [(0, .int .i64 n)]) (W := Hp w [] []) Try.func35 rfl rfl (Nat.le_of_ble_eq_true rfl) rfl (Hp.nil _ _) ?_
  refine jc_seq ?_
  -- region 0
  refine jc_region ?_
  refine jl_y rfl (by decide) rfl (y_assign rfl) ?_
  refine jl_nil ?_
  refine jq_then ?_
  refine jc_seq ?_
  -- region 1
  refine jc_region ?_
  refine jl_y rfl (by decide) rfl (y_move rfl) ?_
  refine jl_y rfl (by decide) rfl (y_conv_u8 rfl) ?_
  refine jl_m rfl (by decide) rfl (m_buildSlice (by decide) (Built.cell rfl rfl rfl (by repeat constructor) Built.nil)) (fun b5 => ?_)
  refine jl_y rfl (by decide) rfl (y_str_own rfl (by first | exact mem0 | exact mem1 | exact mem2 | exact mem3 | exact mem4 | exact mem5) (by repeat constructor)) ?_
  refine jl_as (u := .string (oneB n)) rfl ?_
  refine jl_y rfl (by decide) rfl (y_assign rfl) ?_
  refine jl_nil ?_
  refine jq_then ?_
  refine jc_ret ?_
  refine jq_ret1 rfl rfl ?_
  exact fun _ hw => ⟨rfl, hw.ch⟩

theorem tall_any (ad : Option Addr) (c : Nat) (ps : List ByteArray) (w : World) (hl : ps.length ≤ 1000000) (hps : Strs w ad ps) :
    Calls Try.prog 32 #[.slice ad ps.length c] w fun e w' => e = .returned (.int .i64 (tallV ps)) ∧ Ch [] w w' := by
  refine calls_of (n := 29) (E := [(0, .slice ad ps.length c)]) (W := Hp w [] []) Try.func32 rfl rfl (Nat.le_of_ble_eq_true rfl) rfl (Hp.nil _ _) ?_
  refine jc_seq ?_
  -- region 0
  refine jc_region ?_
  refine jl_y rfl (by decide) rfl (y_assign rfl) ?_
  refine jl_nil ?_
  refine jq_then ?_
  refine jc_seq ?_
  refine jc_seq ?_
  -- region 1
  refine jc_region ?_
  refine jl_y rfl (by decide) rfl (y_assign rfl) ?_
  refine jl_nil ?_
  refine jq_then ?_
  refine jc_block ?_
  -- a loop
  refine jc_loop (fun (i : Nat) => [(0, .slice ad ps.length c), (3, .int .i64 (i : Nat))]) (fun (i : Nat) => fun w' => (i ≤ ps.length ∧ ∀ j, j < i → (at0 ps j).size = 16) ∧ Hp w [] [] w') (fun (i : Nat) => ps.length - i) 0 ?_ ?_ ?_
  · exact ⟨rfl, rfl, trivial⟩
  · exact fun _ h => ⟨⟨by omega, fun j hj => absurd hj (by omega)⟩, h⟩
  · intro i
    refine jc_and (fun hi2 => ?_)
    obtain ⟨hi, hall⟩ := hi2
    refine jc_seq ?_
    refine jc_seq ?_
    -- region 2
    refine jc_region ?_
    refine jl_y rfl (by decide) rfl (y_move rfl) ?_
    refine jl_y rfl (by decide) rfl (y_move rfl) ?_
    refine jl_y rfl (by decide) rfl (y_len_slice rfl) ?_
    refine jl_y rfl (by decide) rfl (y_lss rfl rfl) ?_
    refine jl_prop (fun h9 => ?_) (fun h9 => ?_)
    · first
      | (exfalso; omega)
      | (
        obtain ⟨bb, oo, rfl, hc⟩ := hps (i) _ (at0_some (show i < (ps).length by omega))
        refine jl_nil ?_
        refine jq_then ?_
        refine jc_true rfl ?_
        refine jc_skip ?_
        refine jq_then ?_
        refine jc_seq ?_
        refine jc_block ?_
        refine jc_seq ?_
        -- region 4
        refine jc_region ?_
        refine jl_y rfl (by decide) rfl (y_move rfl) ?_
        refine jl_y rfl (by decide) rfl (y_move rfl) ?_
        refine jl_y rfl (by decide) rfl (y_indexAddr_slice (off := oo + i) rfl rfl (by omega) (by omega) (by omega)) ?_
        refine jl_y rfl (by decide) rfl (y_load_old rfl hc (by simp)) ?_
        refine jl_y rfl (by decide) rfl (y_len_str rfl) ?_
        refine jl_y rfl (by decide) rfl (y_neq rfl rfl) ?_
        refine jl_prop (fun h17 => ?_) (fun h17 => ?_)
        · first
          | (exfalso; omega)
          | (
            refine jl_nil ?_
            refine jq_then ?_
            refine jc_true rfl ?_
            refine jc_seq ?_
            -- region 5
            refine jc_region ?_
            refine jl_y rfl (by decide) rfl (y_assign rfl) ?_
            refine jl_nil ?_
            refine jq_then ?_
            refine jc_ret ?_
            refine jq_block_ret ?_
            refine jq_then_ret ?_
            refine jq_then_ret ?_
            refine jq_block_ret ?_
            refine jq_then_ret ?_
            refine jq_ret1 rfl rfl ?_
            exact fun _ hw => ⟨by rw [tallV_odd (i := i) (by omega) (by omega)], hw.ch⟩
            )
        · first
          | (exfalso; omega)
          | (
            refine jl_nil ?_
            refine jq_then ?_
            refine jc_false rfl ?_
            refine jc_skip ?_
            refine jq_block ?_
            refine jq_then ?_
            -- region 3
            refine jc_region ?_
            refine jl_y rfl (by decide) rfl (y_move rfl) ?_
            refine jl_y rfl (by decide) rfl (y_add_fits rfl rfl (by simp only [fits]; omega)) ?_
            refine jl_y rfl (by decide) rfl (y_assign rfl) ?_
            refine jl_nil ?_
            refine jq_round (i := i) (i + 1) ?_ ?_ ?_
            · omega
            · exact ⟨rfl, lk_int rfl (by omega), trivial⟩
            · exact fun _ h => ⟨⟨by omega, fun j hj => (Nat.lt_succ_iff_lt_or_eq.1 hj).elim (hall j) (fun e => by subst e; omega)⟩, h⟩
            )
        )
    · first
      | (exfalso; omega)
      | (
        refine jl_nil ?_
        refine jq_then ?_
        refine jc_false rfl ?_
        refine jc_exit ?_
        refine jq_then_exit ?_
        refine jq_then_exit ?_
        refine jq_hit ?_
        refine jq_then ?_
        refine jc_seq ?_
        -- region 6
        have hs16 := all16 hall (by omega)
        refine jc_region ?_
        refine jl_y rfl (by decide) rfl (y_assign rfl) ?_
        refine jl_nil ?_
        refine jq_then ?_
        refine jc_seq ?_
        refine jc_seq ?_
        -- region 7
        refine jc_region ?_
        refine jl_y rfl (by decide) rfl (y_assign rfl) ?_
        refine jl_nil ?_
        refine jq_then ?_
        refine jc_block ?_
        -- a loop
        refine jc_rounds 6 ?_
        refine jr_succ ?_
        refine jc_seq ?_
        refine jc_seq ?_
        -- region 8
        refine jc_region ?_
        refine jl_y rfl (by decide) rfl (y_move rfl) ?_
        refine jl_y rfl (by decide) rfl (y_leq rfl rfl) ?_
        refine jl_prop (fun h19 => ?_) (fun h19 => ?_)
        · skip
          refine jl_nil ?_
          refine jq_then ?_
          refine jc_true rfl ?_
          refine jc_skip ?_
          refine jq_then ?_
          refine jc_seq ?_
          refine jc_block ?_
          refine jc_seq ?_
          refine jc_seq ?_
          -- region 10
          refine jc_region ?_
          refine jl_y rfl (by decide) rfl (y_move rfl) ?_
          refine jl_y rfl (by decide) rfl (y_len_slice rfl) ?_
          refine jl_y rfl (by decide) rfl (y_move rfl) ?_
          refine jl_y rfl (by decide) rfl (y_eql rfl rfl) ?_
          refine jl_prop (fun h25 => ?_) (fun h25 => ?_)
          · first
            | (exfalso; omega)
            | (
              refine jl_nil ?_
              refine jq_then ?_
              refine jc_true rfl ?_
              refine jc_seq ?_
              -- region 11
              refine jc_region ?_
              refine jl_y rfl (by decide) rfl (y_move rfl) ?_
              refine jl_y rfl (by decide) rfl (y_assign rfl) ?_
              refine jl_nil ?_
              refine jq_then ?_
              refine jc_ret ?_
              refine jq_then_ret ?_
              refine jq_block_ret ?_
              refine jq_then_ret ?_
              refine jq_then_ret ?_
              refine jq_block_ret ?_
              refine jq_then_ret ?_
              refine jq_ret1 rfl rfl ?_
              exact fun _ hw => ⟨by rw [tallV_eq (h := 0) hs16 (by omega : ps.length = 1) (by decide) (by decide)]; rfl, hw.ch⟩
              )
          · first
            | (exfalso; omega)
            | (
              refine jl_nil ?_
              refine jq_then ?_
              refine jc_false rfl ?_
              refine jc_skip ?_
              refine jq_then ?_
              -- region 12
              refine jc_region ?_
              refine jl_y rfl (by decide) rfl (y_move rfl) ?_
              refine jl_y rfl (by decide) rfl (y_mul_fits rfl rfl (by simp only [fits]; omega)) ?_
              refine jl_y rfl (by decide) rfl (y_assign rfl) ?_
              refine jl_nil ?_
              refine jq_block ?_
              refine jq_then ?_
              -- region 9
              refine jc_region ?_
              refine jl_y rfl (by decide) rfl (y_move rfl) ?_
              refine jl_y rfl (by decide) rfl (y_add_fits rfl rfl (by simp only [fits]; omega)) ?_
              refine jl_y rfl (by decide) rfl (y_assign rfl) ?_
              refine jl_nil ?_
              refine jq_again ?_
              refine jr_succ ?_
              refine jc_seq ?_
              refine jc_seq ?_
              -- region 8
              refine jc_region ?_
              refine jl_y rfl (by decide) rfl (y_move rfl) ?_
              refine jl_y rfl (by decide) rfl (y_leq rfl rfl) ?_
              refine jl_prop (fun h19 => ?_) (fun h19 => ?_)
              · skip
                refine jl_nil ?_
                refine jq_then ?_
                refine jc_true rfl ?_
                refine jc_skip ?_
                refine jq_then ?_
                refine jc_seq ?_
                refine jc_block ?_
                refine jc_seq ?_
                refine jc_seq ?_
                -- region 10
                refine jc_region ?_
                refine jl_y rfl (by decide) rfl (y_move rfl) ?_
                refine jl_y rfl (by decide) rfl (y_len_slice rfl) ?_
                refine jl_y rfl (by decide) rfl (y_move rfl) ?_
                refine jl_y rfl (by decide) rfl (y_eql rfl rfl) ?_
                refine jl_prop (fun h25 => ?_) (fun h25 => ?_)
                · first
                  | (exfalso; omega)
                  | (
                    refine jl_nil ?_
                    refine jq_then ?_
                    refine jc_true rfl ?_
                    refine jc_seq ?_
                    -- region 11
                    refine jc_region ?_
                    refine jl_y rfl (by decide) rfl (y_move rfl) ?_
                    refine jl_y rfl (by decide) rfl (y_assign rfl) ?_
                    refine jl_nil ?_
                    refine jq_then ?_
                    refine jc_ret ?_
                    refine jq_then_ret ?_
                    refine jq_block_ret ?_
                    refine jq_then_ret ?_
                    refine jq_then_ret ?_
                    refine jq_block_ret ?_
                    refine jq_then_ret ?_
                    refine jq_ret1 rfl rfl ?_
                    exact fun _ hw => ⟨by rw [tallV_eq (h := 1) hs16 (by omega : ps.length = 2) (by decide) (by decide)]; rfl, hw.ch⟩
                    )
                · first
                  | (exfalso; omega)
                  | (
                    refine jl_nil ?_
                    refine jq_then ?_
                    refine jc_false rfl ?_
                    refine jc_skip ?_
                    refine jq_then ?_
                    -- region 12
                    refine jc_region ?_
                    refine jl_y rfl (by decide) rfl (y_move rfl) ?_
                    refine jl_y rfl (by decide) rfl (y_mul_fits rfl rfl (by simp only [fits]; omega)) ?_
                    refine jl_y rfl (by decide) rfl (y_assign rfl) ?_
                    refine jl_nil ?_
                    refine jq_block ?_
                    refine jq_then ?_
                    -- region 9
                    refine jc_region ?_
                    refine jl_y rfl (by decide) rfl (y_move rfl) ?_
                    refine jl_y rfl (by decide) rfl (y_add_fits rfl rfl (by simp only [fits]; omega)) ?_
                    refine jl_y rfl (by decide) rfl (y_assign rfl) ?_
                    refine jl_nil ?_
                    refine jq_again ?_
                    refine jr_succ ?_
                    refine jc_seq ?_
                    refine jc_seq ?_
                    -- region 8
                    refine jc_region ?_
                    refine jl_y rfl (by decide) rfl (y_move rfl) ?_
                    refine jl_y rfl (by decide) rfl (y_leq rfl rfl) ?_
                    refine jl_prop (fun h19 => ?_) (fun h19 => ?_)
                    · skip
                      refine jl_nil ?_
                      refine jq_then ?_
                      refine jc_true rfl ?_
                      refine jc_skip ?_
                      refine jq_then ?_
                      refine jc_seq ?_
                      refine jc_block ?_
                      refine jc_seq ?_
                      refine jc_seq ?_
                      -- region 10
                      refine jc_region ?_
                      refine jl_y rfl (by decide) rfl (y_move rfl) ?_
                      refine jl_y rfl (by decide) rfl (y_len_slice rfl) ?_
                      refine jl_y rfl (by decide) rfl (y_move rfl) ?_
                      refine jl_y rfl (by decide) rfl (y_eql rfl rfl) ?_
                      refine jl_prop (fun h25 => ?_) (fun h25 => ?_)
                      · first
                        | (exfalso; omega)
                        | (
                          refine jl_nil ?_
                          refine jq_then ?_
                          refine jc_true rfl ?_
                          refine jc_seq ?_
                          -- region 11
                          refine jc_region ?_
                          refine jl_y rfl (by decide) rfl (y_move rfl) ?_
                          refine jl_y rfl (by decide) rfl (y_assign rfl) ?_
                          refine jl_nil ?_
                          refine jq_then ?_
                          refine jc_ret ?_
                          refine jq_then_ret ?_
                          refine jq_block_ret ?_
                          refine jq_then_ret ?_
                          refine jq_then_ret ?_
                          refine jq_block_ret ?_
                          refine jq_then_ret ?_
                          refine jq_ret1 rfl rfl ?_
                          exact fun _ hw => ⟨by rw [tallV_eq (h := 2) hs16 (by omega : ps.length = 4) (by decide) (by decide)]; rfl, hw.ch⟩
                          )
                      · first
                        | (exfalso; omega)
                        | (
                          refine jl_nil ?_
                          refine jq_then ?_
                          refine jc_false rfl ?_
                          refine jc_skip ?_
                          refine jq_then ?_
                          -- region 12
                          refine jc_region ?_
                          refine jl_y rfl (by decide) rfl (y_move rfl) ?_
                          refine jl_y rfl (by decide) rfl (y_mul_fits rfl rfl (by simp only [fits]; omega)) ?_
                          refine jl_y rfl (by decide) rfl (y_assign rfl) ?_
                          refine jl_nil ?_
                          refine jq_block ?_
                          refine jq_then ?_
                          -- region 9
                          refine jc_region ?_
                          refine jl_y rfl (by decide) rfl (y_move rfl) ?_
                          refine jl_y rfl (by decide) rfl (y_add_fits rfl rfl (by simp only [fits]; omega)) ?_
                          refine jl_y rfl (by decide) rfl (y_assign rfl) ?_
                          refine jl_nil ?_
                          refine jq_again ?_
                          refine jr_succ ?_
                          refine jc_seq ?_
                          refine jc_seq ?_
                          -- region 8
                          refine jc_region ?_
                          refine jl_y rfl (by decide) rfl (y_move rfl) ?_
                          refine jl_y rfl (by decide) rfl (y_leq rfl rfl) ?_
                          refine jl_prop (fun h19 => ?_) (fun h19 => ?_)
                          · skip
                            refine jl_nil ?_
                            refine jq_then ?_
                            refine jc_true rfl ?_
                            refine jc_skip ?_
                            refine jq_then ?_
                            refine jc_seq ?_
                            refine jc_block ?_
                            refine jc_seq ?_
                            refine jc_seq ?_
                            -- region 10
                            refine jc_region ?_
                            refine jl_y rfl (by decide) rfl (y_move rfl) ?_
                            refine jl_y rfl (by decide) rfl (y_len_slice rfl) ?_
                            refine jl_y rfl (by decide) rfl (y_move rfl) ?_
                            refine jl_y rfl (by decide) rfl (y_eql rfl rfl) ?_
                            refine jl_prop (fun h25 => ?_) (fun h25 => ?_)
                            · first
                              | (exfalso; omega)
                              | (
                                refine jl_nil ?_
                                refine jq_then ?_
                                refine jc_true rfl ?_
                                refine jc_seq ?_
                                -- region 11
                                refine jc_region ?_
                                refine jl_y rfl (by decide) rfl (y_move rfl) ?_
                                refine jl_y rfl (by decide) rfl (y_assign rfl) ?_
                                refine jl_nil ?_
                                refine jq_then ?_
                                refine jc_ret ?_
                                refine jq_then_ret ?_
                                refine jq_block_ret ?_
                                refine jq_then_ret ?_
                                refine jq_then_ret ?_
                                refine jq_block_ret ?_
                                refine jq_then_ret ?_
                                refine jq_ret1 rfl rfl ?_
                                exact fun _ hw => ⟨by rw [tallV_eq (h := 3) hs16 (by omega : ps.length = 8) (by decide) (by decide)]; rfl, hw.ch⟩
                                )
                            · first
                              | (exfalso; omega)
                              | (
                                refine jl_nil ?_
                                refine jq_then ?_
                                refine jc_false rfl ?_
                                refine jc_skip ?_
                                refine jq_then ?_
                                -- region 12
                                refine jc_region ?_
                                refine jl_y rfl (by decide) rfl (y_move rfl) ?_
                                refine jl_y rfl (by decide) rfl (y_mul_fits rfl rfl (by simp only [fits]; omega)) ?_
                                refine jl_y rfl (by decide) rfl (y_assign rfl) ?_
                                refine jl_nil ?_
                                refine jq_block ?_
                                refine jq_then ?_
                                -- region 9
                                refine jc_region ?_
                                refine jl_y rfl (by decide) rfl (y_move rfl) ?_
                                refine jl_y rfl (by decide) rfl (y_add_fits rfl rfl (by simp only [fits]; omega)) ?_
                                refine jl_y rfl (by decide) rfl (y_assign rfl) ?_
                                refine jl_nil ?_
                                refine jq_again ?_
                                refine jr_succ ?_
                                refine jc_seq ?_
                                refine jc_seq ?_
                                -- region 8
                                refine jc_region ?_
                                refine jl_y rfl (by decide) rfl (y_move rfl) ?_
                                refine jl_y rfl (by decide) rfl (y_leq rfl rfl) ?_
                                refine jl_prop (fun h19 => ?_) (fun h19 => ?_)
                                · skip
                                  refine jl_nil ?_
                                  refine jq_then ?_
                                  refine jc_true rfl ?_
                                  refine jc_skip ?_
                                  refine jq_then ?_
                                  refine jc_seq ?_
                                  refine jc_block ?_
                                  refine jc_seq ?_
                                  refine jc_seq ?_
                                  -- region 10
                                  refine jc_region ?_
                                  refine jl_y rfl (by decide) rfl (y_move rfl) ?_
                                  refine jl_y rfl (by decide) rfl (y_len_slice rfl) ?_
                                  refine jl_y rfl (by decide) rfl (y_move rfl) ?_
                                  refine jl_y rfl (by decide) rfl (y_eql rfl rfl) ?_
                                  refine jl_prop (fun h25 => ?_) (fun h25 => ?_)
                                  · first
                                    | (exfalso; omega)
                                    | (
                                      refine jl_nil ?_
                                      refine jq_then ?_
                                      refine jc_true rfl ?_
                                      refine jc_seq ?_
                                      -- region 11
                                      refine jc_region ?_
                                      refine jl_y rfl (by decide) rfl (y_move rfl) ?_
                                      refine jl_y rfl (by decide) rfl (y_assign rfl) ?_
                                      refine jl_nil ?_
                                      refine jq_then ?_
                                      refine jc_ret ?_
                                      refine jq_then_ret ?_
                                      refine jq_block_ret ?_
                                      refine jq_then_ret ?_
                                      refine jq_then_ret ?_
                                      refine jq_block_ret ?_
                                      refine jq_then_ret ?_
                                      refine jq_ret1 rfl rfl ?_
                                      exact fun _ hw => ⟨by rw [tallV_eq (h := 4) hs16 (by omega : ps.length = 16) (by decide) (by decide)]; rfl, hw.ch⟩
                                      )
                                  · first
                                    | (exfalso; omega)
                                    | (
                                      refine jl_nil ?_
                                      refine jq_then ?_
                                      refine jc_false rfl ?_
                                      refine jc_skip ?_
                                      refine jq_then ?_
                                      -- region 12
                                      refine jc_region ?_
                                      refine jl_y rfl (by decide) rfl (y_move rfl) ?_
                                      refine jl_y rfl (by decide) rfl (y_mul_fits rfl rfl (by simp only [fits]; omega)) ?_
                                      refine jl_y rfl (by decide) rfl (y_assign rfl) ?_
                                      refine jl_nil ?_
                                      refine jq_block ?_
                                      refine jq_then ?_
                                      -- region 9
                                      refine jc_region ?_
                                      refine jl_y rfl (by decide) rfl (y_move rfl) ?_
                                      refine jl_y rfl (by decide) rfl (y_add_fits rfl rfl (by simp only [fits]; omega)) ?_
                                      refine jl_y rfl (by decide) rfl (y_assign rfl) ?_
                                      refine jl_nil ?_
                                      refine jq_again ?_
                                      refine jr_succ ?_
                                      refine jc_seq ?_
                                      refine jc_seq ?_
                                      -- region 8
                                      refine jc_region ?_
                                      refine jl_y rfl (by decide) rfl (y_move rfl) ?_
                                      refine jl_y rfl (by decide) rfl (y_leq rfl rfl) ?_
                                      refine jl_prop (fun h19 => ?_) (fun h19 => ?_)
                                      · exfalso; omega
                                      · skip
                                        refine jl_nil ?_
                                        refine jq_then ?_
                                        refine jc_false rfl ?_
                                        refine jc_exit ?_
                                        refine jq_then_exit ?_
                                        refine jq_then_exit ?_
                                        refine jq_hit ?_
                                        refine jq_then ?_
                                        refine jc_seq ?_
                                        -- region 13
                                        refine jc_region ?_
                                        refine jl_y rfl (by decide) rfl (y_assign rfl) ?_
                                        refine jl_nil ?_
                                        refine jq_then ?_
                                        refine jc_ret ?_
                                        refine jq_ret1 rfl rfl ?_
                                        exact fun _ hw => ⟨by rw [tallV_none (by unfold okN; omega)], hw.ch⟩
                                      )
                                · exfalso; omega
                                )
                          · exfalso; omega
                          )
                    · exfalso; omega
                    )
              · exfalso; omega
              )
        · exfalso; omega
        )

theorem above_any (ad : Option Addr) (c : Nat) (ps : List ByteArray) (w : World) (hl : ps.length ≤ 1000000) (hps : Strs w ad ps) (hs : ∀ p ∈ ps, p.size = 16) :
    Calls Try.prog 33 #[.slice ad ps.length c] w fun e w' => ∃ p : Option Addr × Nat, e = .returned (.slice p.1 (aboveL ps).length p.2) ∧ Fresh w w' (.row (p.1) ((aboveL ps).length) (p.2) 9 1 ((aboveL ps).map .string)) := by
  have hsm : ∀ j, j < ps.length → (at0 ps j).size ≤ 1000000 := fun j hj => by rw [hs _ (at0_mem hj)]; decide
  have hla := aboveL_length ps
  refine calls_of (n := 28) (E := [(0, .slice ad ps.length c)]) (W := Hp w [] []) Try.func33 rfl rfl (Nat.le_of_ble_eq_true rfl) rfl (Hp.nil _ _) ?_
  refine jc_seq ?_
  -- region 0
  refine jc_region ?_
  refine jl_y rfl (by decide) rfl (y_assign rfl) ?_
  refine jl_nil ?_
  refine jq_then ?_
  refine jc_seq ?_
  -- region 1
  refine jc_region ?_
  refine jl_m rfl (by decide) rfl (m_buildSlice (by decide) Built.nil) (fun b5 => ?_)
  refine jl_y rfl (by decide) rfl (y_assign rfl) ?_
  refine jl_nil ?_
  refine jq_then ?_
  refine jc_seq ?_
  refine jc_seq ?_
  -- region 2
  refine jc_region ?_
  refine jl_y rfl (by decide) rfl (y_assign rfl) ?_
  refine jl_nil ?_
  refine jq_then ?_
  refine jc_block ?_
  -- a loop
  refine jc_loop3 (fun (i : Nat) (adn : Option Addr) (cn : Nat) => [(0, .slice ad ps.length c), (3, .slice adn i cn), (4, .int .i64 (2 * (i : Nat)))]) (fun (i : Nat) (adn : Option Addr) (cn : Nat) => fun w' => i ≤ ps.length / 2 ∧ Hp w [] [.row (adn) (i) (cn) 9 1 (((aboveL ps).take i).map .string)] w') (fun (i : Nat) (adn : Option Addr) (cn : Nat) => ps.length / 2 - i) 0 (some ⟨b5, 0, none⟩) 0 ?_ ?_ ?_
  · exact ⟨rfl, rfl, rfl, trivial⟩
  · exact fun _ h => ⟨by omega, h⟩
  · intro i adn cn
    refine jc_and (fun hi => ?_)
    refine jc_seq ?_
    refine jc_seq ?_
    -- region 3
    refine jc_region ?_
    refine jl_y rfl (by decide) rfl (y_move rfl) ?_
    refine jl_y rfl (by decide) rfl (y_add_fits rfl rfl (by simp only [fits]; omega)) ?_
    refine jl_y rfl (by decide) rfl (y_move rfl) ?_
    refine jl_y rfl (by decide) rfl (y_len_slice rfl) ?_
    refine jl_y rfl (by decide) rfl (y_lss rfl rfl) ?_
    refine jl_prop (fun h10 => ?_) (fun h10 => ?_)
    · first
      | (exfalso; omega)
      | (
        obtain ⟨bb, oo, rfl, hc⟩ := hps (2 * i) _ (at0_some (show 2 * i < (ps).length by omega))
        have hc2 := strs_at' hps (at0_some (show 2 * i + 1 < ps.length by omega))
        have hs0 := hsm (2 * i) (by omega)
        have hs1 := hsm (2 * i + 1) (by omega)
        refine jl_nil ?_
        refine jq_then ?_
        refine jc_true rfl ?_
        refine jc_skip ?_
        refine jq_then ?_
        refine jc_seq ?_
        refine jc_block ?_
        -- region 5
        refine jc_sched 13 [(0, true), (1, true), (2, true), (3, true), (4, true), (5, true), (6, true), (7, true), (8, true), (9, true), (10, false), (11, false), (12, false)] rfl (by kernel_rfl) (fun _ _ _ _ h => h) (fun _ h => h.drew) ?_
        simp only [pickO, nthO, List.drop_succ_cons, List.drop_zero]
        refine js_take rfl (by decide) rfl (y_move rfl) ?_
        refine js_take rfl (by decide) rfl (y_move rfl) ?_
        refine js_take rfl (by decide) rfl (y_move rfl) ?_
        refine js_take rfl (by decide) rfl (y_indexAddr_slice (off := oo + 2 * i) rfl rfl (by omega) (by omega) (by omega)) ?_
        refine js_take rfl (by decide) rfl (y_load_old rfl hc (by simp)) ?_
        refine js_take rfl (by decide) rfl (y_move rfl) ?_
        refine js_take rfl (by decide) rfl (y_move rfl) ?_
        refine js_take rfl (by decide) rfl (y_add_fits rfl rfl (by simp only [fits]; omega)) ?_
        refine js_take rfl (by decide) rfl (y_indexAddr_slice (off := oo + (2 * i + 1)) rfl rfl (by omega) (by omega) (by omega)) ?_
        refine js_take rfl (by decide) rfl (y_load_old rfl hc2 (by simp)) ?_
        refine js_m (by intros; rename_i h; first | exact h | exact h.pop | exact h.pop.pop | exact h.pop.pop.pop | exact h.pop.pop.pop.pop | exact h.pop.pop.pop.pop.pop | exact h.pop.pop.pop.pop.pop.pop | exact h.part .nil) rfl (by decide) rfl (m_buildSlice (by decide) (Built.cell rfl rfl rfl (by repeat constructor) (Built.cell rfl rfl rfl (by repeat constructor) Built.nil))) (fun b23 => ?_)
        refine js_pcall (by intro _ h; first | exact h | exact h.pop | exact h.pop.pop | exact h.pop.pop.pop | exact h.pop.pop.pop.pop | exact h.pop.pop.pop.pop.pop | exact h.pop.pop.pop.pop.pop.pop | exact h.part .nil) rfl (by decide) rfl (goes_func rfl) (fun w1 hw1 => pcall hw1 (rtag_any strNode (some ⟨b23, 0, none⟩) 2 [at0 ps (2 * i), at0 ps (2 * i + 1)] w1 (by decide) (by simp) (all2 (hs0) (hs1)) (Strs.of_row (hw1.get mem0)))) ?_
        refine js_m (by intros; rename_i h; first | exact h | exact h.pop | exact h.pop.pop | exact h.pop.pop.pop | exact h.pop.pop.pop.pop | exact h.pop.pop.pop.pop.pop | exact h.pop.pop.pop.pop.pop.pop | exact h.part .nil) rfl (by decide) rfl (m_buildSlice (by decide) (Built.cell rfl rfl rfl (by repeat constructor) Built.nil)) (fun b25 => ?_)
        refine js_nil ?_
        refine jl_m2 rfl (by decide) rfl (m_append rfl rfl (by first | exact del0 | exact del1 | exact del2 | exact del3 | exact del4) (by first | exact del0 | exact del1 | exact del2 | exact del3 | exact del4) rfl (by omega) (by omega)) (fun a26 c26 => ?_)
        refine jl_y rfl (by decide) rfl (y_assign rfl) ?_
        refine jl_nil ?_
        refine jq_block ?_
        refine jq_then ?_
        -- region 4
        refine jc_region ?_
        refine jl_y rfl (by decide) rfl (y_move rfl) ?_
        refine jl_y rfl (by decide) rfl (y_add_fits rfl rfl (by simp only [fits]; omega)) ?_
        refine jl_y rfl (by decide) rfl (y_assign rfl) ?_
        refine jl_nil ?_
        refine jq_round3 (i := i) (j := adn) (l := cn) (i + 1) a26 c26 ?_ ?_ ?_
        · omega
        · exact ⟨rfl, rfl, lk_int rfl (by omega), trivial⟩
        · exact fun _ h => ⟨by omega, (h.part (.cons del0 .nil)).cast (by rw [aboveL_take (by omega), List.map_append]; rfl)⟩
        )
    · first
      | (exfalso; omega)
      | (
        refine jl_nil ?_
        refine jq_then ?_
        refine jc_false rfl ?_
        refine jc_exit ?_
        refine jq_then_exit ?_
        refine jq_then_exit ?_
        refine jq_hit ?_
        refine jq_then ?_
        refine jc_seq ?_
        -- region 6
        refine jc_region ?_
        refine jl_y rfl (by decide) rfl (y_move rfl) ?_
        refine jl_y rfl (by decide) rfl (y_assign rfl) ?_
        refine jl_nil ?_
        refine jq_then ?_
        refine jc_ret ?_
        refine jq_ret1 rfl rfl ?_
        exact fun w' hw => by
          have e : i = (aboveL ps).length := (by omega)
          subst e
          rw [List.take_length] at hw
          exact ⟨(adn, cn), rfl, hw.fresh⟩
        )

theorem rroot_ok (ad : Option Addr) (c : Nat) (ps : List ByteArray) (w : World) (hl : ps.length ≤ 1000000) (hps : Strs w ad ps) (hok : okL ps) :
    Calls Try.prog 11 #[.slice ad ps.length c] w fun e w' => e = .returned (.tuple #[.string (rootS ps), .int .i64 (rootE ps)]) ∧ Ch [] w w' := by
  obtain ⟨hpw, ht4⟩ := okL_length hok
  have hs16 := hok.2
  have htv := tallV_ok hok
  refine calls_of (n := 23) (E := [(0, .slice ad ps.length c)]) (W := Hp w [] []) Try.func11 rfl rfl (Nat.le_of_ble_eq_true rfl) rfl (Hp.nil _ _) ?_
  refine jc_seq ?_
  -- region 0
  refine jc_region ?_
  refine jl_y rfl (by decide) rfl (y_assign rfl) ?_
  refine jl_y rfl (by decide) rfl (y_assign rfl) ?_
  refine jl_nil ?_
  refine jq_then ?_
  refine jc_seq ?_
  -- region 1
  refine jc_region ?_
  refine jl_y rfl (by decide) rfl (y_move rfl) ?_
  refine jl_pcall rfl (by decide) rfl (goes_func rfl) (fun w1 hw1 => pcall hw1 (tall_any _ _ _ w1 (by omega) (hps.keep hw1))) ?_
  refine jl_as (u := .int .i64 ((tallL ps : Nat) : Int)) (congrArg _ htv) ?_
  refine jl_y rfl (by decide) rfl (y_assign rfl) ?_
  refine jl_nil ?_
  refine jq_then ?_
  refine jc_seq ?_
  refine jc_seq ?_
  -- region 2
  refine jc_region ?_
  refine jl_y rfl (by decide) rfl (y_move rfl) ?_
  refine jl_y rfl (by decide) rfl (y_lss rfl rfl) ?_
  refine jl_prop (fun h9 => ?_) (fun h9 => ?_)
  · first
    | (exfalso; omega)
    | (
      refine jl_nil ?_
      refine jq_then ?_
      refine jc_true rfl ?_
      refine jc_seq ?_
      -- region 3
      refine jc_region ?_
      refine jl_y rfl (by decide) rfl (y_assign rfl) ?_
      refine jl_y rfl (by decide) rfl (y_assign rfl) ?_
      refine jl_nil ?_
      refine jq_then ?_
      refine jc_ret ?_
      refine jq_then_ret ?_
      refine jq_ret2 rfl rfl rfl ?_
      exact fun _ hw => ⟨by rw [(root_ok hok).1, (root_ok hok).2]; rfl, hw.ch⟩
      )
  · first
    | (exfalso; omega)
    | (
      refine jl_nil ?_
      refine jq_then ?_
      refine jc_false rfl ?_
      refine jc_skip ?_
      refine jq_then ?_
      refine jc_seq ?_
      -- region 4
      refine jc_region ?_
      refine jl_y rfl (by decide) rfl (y_move rfl) ?_
      refine jl_y rfl (by decide) rfl (y_assign rfl) ?_
      refine jl_nil ?_
      refine jq_then ?_
      refine jc_seq ?_
      refine jc_block ?_
      -- a loop
      refine jc_loop3 (fun (k : Nat) (ar : Option Addr) (cr : Nat) => [(4, .int .i64 ((tallL ps : Nat) : Int)), (5, .slice ar (rowN ps k).length cr)]) (fun (k : Nat) (ar : Option Addr) (cr : Nat) => fun w' => k ≤ tallL ps ∧ Ch [] w w' ∧ Strs w' ar (rowN ps k)) (fun (k : Nat) (ar : Option Addr) (cr : Nat) => tallL ps - k) 0 ad c ?_ ?_ ?_
      · exact ⟨rfl, rfl, trivial⟩
      · exact fun w2 h => ⟨by omega, h.ch, hps.keep h⟩
      · intro k ar cr
        refine jc_rebase (fun wa hwa => ?_)
        obtain ⟨hk, hch, hra⟩ := hwa
        have hrl := row_pow hpw hk
        have hr1 := Nat.two_pow_pos (tallL ps - k)
        refine jc_seq ?_
        refine jc_seq ?_
        -- region 5
        refine jc_region ?_
        refine jl_y rfl (by decide) rfl (y_move rfl) ?_
        refine jl_y rfl (by decide) rfl (y_len_slice rfl) ?_
        refine jl_y rfl (by decide) rfl (y_gtr rfl rfl) ?_
        refine jl_prop (fun h13 => ?_) (fun h13 => ?_)
        · first
          | (exfalso; omega)
          | (
            have hkt : k < tallL ps := (Nat.lt_or_ge k (tallL ps)).elim id (fun h => by exfalso; have e : k = tallL ps := (by omega); subst e; rw [Nat.sub_self] at hrl; simp at hrl; omega)
            refine jl_nil ?_
            refine jq_then ?_
            refine jc_true rfl ?_
            refine jc_skip ?_
            refine jq_then ?_
            refine jc_block ?_
            -- region 6
            refine jc_region ?_
            refine jl_y rfl (by decide) rfl (y_move rfl) ?_
            refine jl_kcall rfl (by decide) rfl (goes_func rfl) (fun w1 hw1 => (above_any _ _ (rowN ps k) w1 (by rw [rowN_length]; have := Nat.div_le_self ps.length (2 ^ k); omega) (hra.keep hw1) (rowN_size hs16 k)).mono fun e w2 ⟨p, he, hf⟩ => ⟨p, he, hf.1, (Strs.of_own hf.2.1 : Strs w2 p.1 (rowN ps (k + 1)))⟩) (fun ⟨an, cn⟩ wn hbn hrn => ?_)
            refine jl_y rfl (by decide) rfl (y_assign rfl) ?_
            refine jl_nil ?_
            refine jq_block ?_
            refine jq_round3 (i := k) (j := ar) (l := cr) (k + 1) an cn ?_ ?_ ?_
            · omega
            · exact ⟨rfl, rfl, trivial⟩
            · exact fun w2 h => ⟨by omega, (hch.then (hbn.ch.then h.ch)), hrn.keep h⟩
            )
        · first
          | (exfalso; omega)
          | (
            have hkt : k = tallL ps := by have h2 := @pow_one_zero (tallL ps - k) (by omega); omega
            subst hkt
            obtain ⟨bb, oo, rfl, hc⟩ := hra 0 _ (at0_some (by omega))
            have hsz := rowN_size hs16 (tallL ps) _ (at0_mem (show 0 < (rowN ps (tallL ps)).length by omega))
            refine jl_nil ?_
            refine jq_then ?_
            refine jc_false rfl ?_
            refine jc_exit ?_
            refine jq_then_exit ?_
            refine jq_then_exit ?_
            refine jq_hit ?_
            refine jq_then ?_
            refine jc_seq ?_
            -- region 7
            refine jc_tail 5 (by kernel_rfl) (fun _ h => h.drew) ?_
            simp only [List.take_succ_cons, List.take_zero, List.drop_succ_cons, List.drop_zero]
            refine jt_y rfl (by decide) rfl (y_move rfl) ?_
            refine jt_call rfl (by decide) rfl (goes_func rfl) (fun w1 hw1 => pcall hw1 (r7one_any _ w1)) ?_
            refine jt_y rfl (by decide) rfl (y_move rfl) ?_
            refine jt_y rfl (by decide) rfl (y_indexAddr_slice (off := oo + 0) rfl rfl (by omega) (by omega) (by omega)) ?_
            refine jt_y rfl (by decide) rfl (y_load_old rfl hc (by simp)) ?_
            refine jt_nil ?_
            refine jl_m rfl (by decide) rfl (m_buildSlice (by decide) (Built.cell rfl rfl rfl (by repeat constructor) (Built.cell rfl rfl rfl (by repeat constructor) Built.nil))) (fun b21 => ?_)
            refine jl_pcall rfl (by decide) rfl (goes_func rfl) (fun w1 hw1 => pcall hw1 (rtag_any strRoot (some ⟨b21, 0, none⟩) 2 [oneB ((tallL ps : Nat) : Int), at0 (rowN ps (tallL ps)) 0] w1 (by decide) (by simp) (all2 (by rw [oneB_size]; decide) (by omega)) (Strs.of_row (hw1.get mem0)))) ?_
            refine jl_y rfl (by decide) rfl (y_assign rfl) ?_
            refine jl_y rfl (by decide) rfl (y_assign rfl) ?_
            refine jl_nil ?_
            refine jq_then ?_
            refine jc_ret ?_
            refine jq_ret2 rfl rfl rfl ?_
            exact fun _ hw => ⟨by rw [(root_ok hok).1, (root_ok hok).2]; rfl, (hch.then hw.ch)⟩
            )
      )

theorem rroot_bad (ad : Option Addr) (c : Nat) (ps : List ByteArray) (w : World) (hl : ps.length ≤ 1000000) (hps : Strs w ad ps) (hok : ¬ okL ps) :
    Calls Try.prog 11 #[.slice ad ps.length c] w fun e w' => e = .returned (.tuple #[.string (rootS ps), .int .i64 (rootE ps)]) ∧ Ch [] w w' := by
  have htv := tallV_bad hok
  refine calls_of (n := 23) (E := [(0, .slice ad ps.length c)]) (W := Hp w [] []) Try.func11 rfl rfl (Nat.le_of_ble_eq_true rfl) rfl (Hp.nil _ _) ?_
  refine jc_seq ?_
  -- region 0
  refine jc_region ?_
  refine jl_y rfl (by decide) rfl (y_assign rfl) ?_
  refine jl_y rfl (by decide) rfl (y_assign rfl) ?_
  refine jl_nil ?_
  refine jq_then ?_
  refine jc_seq ?_
  -- region 1
  refine jc_region ?_
  refine jl_y rfl (by decide) rfl (y_move rfl) ?_
  refine jl_pcall rfl (by decide) rfl (goes_func rfl) (fun w1 hw1 => pcall hw1 (tall_any _ _ _ w1 (by omega) (hps.keep hw1))) ?_
  refine jl_y rfl (by decide) rfl (y_assign rfl) ?_
  refine jl_nil ?_
  refine jq_then ?_
  refine jc_seq ?_
  refine jc_seq ?_
  -- region 2
  refine jc_region ?_
  refine jl_y rfl (by decide) rfl (y_move rfl) ?_
  refine jl_y rfl (by decide) rfl (y_lss rfl rfl) ?_
  refine jl_prop (fun h9 => ?_) (fun h9 => ?_)
  · first
    | (exfalso; omega)
    | (
      refine jl_nil ?_
      refine jq_then ?_
      refine jc_true rfl ?_
      refine jc_seq ?_
      -- region 3
      refine jc_region ?_
      refine jl_y rfl (by decide) rfl (y_assign rfl) ?_
      refine jl_y rfl (by decide) rfl (y_assign rfl) ?_
      refine jl_nil ?_
      refine jq_then ?_
      refine jc_ret ?_
      refine jq_then_ret ?_
      refine jq_ret2 rfl rfl rfl ?_
      exact fun _ hw => ⟨by rw [(root_bad hok).1, (root_bad hok).2], hw.ch⟩
      )
  · exfalso; omega

theorem rroot_any (ad : Option Addr) (c : Nat) (ps : List ByteArray) (w : World) (hl : ps.length ≤ 1000000) (hps : Strs w ad ps) : Calls Try.prog 11 #[.slice ad ps.length c] w fun e w' => e = .returned (.tuple #[.string (rootS ps), .int .i64 (rootE ps)]) ∧ Ch [] w w' := by
  by_cases hok : okL ps
  · exact rroot_ok ad c ps w hl hps hok
  · exact rroot_bad ad c ps w hl hps hok
end Go.Proofs.Ytbemnhllcpopbaa