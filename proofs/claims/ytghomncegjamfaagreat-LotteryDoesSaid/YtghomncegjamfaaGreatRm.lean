/- The walks of package turnstileref07, part three. Written by program (walk.py) out of a table of contracts and invariants. -/
import Derived.Test.YtghomncegjamfaaGreatRl
namespace Go.Proofs.YtghomncegjamfaaGreat
open Go.RowKit
set_option maxRecDepth 100000
set_option linter.unusedVariables false
set_option linter.unusedSimpArgs false
attribute [local irreducible] Yields Makes Writes
theorem upK_even {x : ByteArray} {j k : Nat} {ps : List ByteArray} (h : ((hf j k : Nat) : Int) % 2 = 0) : upK x j ps (k + 1) = nodeS (upK x j ps k) (at0 ps k) := by rw [upK]; exact if_pos (mod_nat h)
theorem upK_odd {x : ByteArray} {j k : Nat} {ps : List ByteArray} (h : ¬ ((hf j k : Nat) : Int) % 2 = 0) : upK x j ps (k + 1) = nodeS (at0 ps k) (upK x j ps k) := by rw [upK]; exact if_neg (mod_nat' h)
theorem same_all {ps qs : List ByteArray} (hl : ps.length = qs.length) (h : ∀ j, j < ps.length → at0 ps j = at0 qs j) : ps = qs := List.ext_getElem? fun j => by
  rcases Nat.lt_or_ge j ps.length with h1 | h1
  · rw [at0_some h1, at0_some (by omega), h j h1]
  · rw [List.getElem?_eq_none h1, List.getElem?_eq_none (by omega)]

theorem rup_any (x : ByteArray) (i : Int) (ad : Option Addr) (c : Nat) (ps : List ByteArray) (w : World) (hl : ps.length ≤ 1000000) (hps : Strs w ad ps) (hi0 : fits .i64 i) :
  Calls Tryz.prog 112 #[.string x, .int .i64 i, .slice ad ps.length c] w fun e w' => e = .returned (.tuple #[.string (upS x i ps), .int .i64 (upE x i ps)]) ∧ Ch [] w w' := by
 refine calls_of (n := 64) (E := [(0, .string x), (1, .int .i64 i), (2, .slice ad ps.length c)]) (W := Hp w [] []) Tryz.func112 rfl rfl (Nat.le_of_ble_eq_true rfl) rfl (Hp.nil _ _) ?_; refine jsr ?_; (iterate 2 refine jz ?_); refine jnt ?_; refine jc_seq ?_; refine jsr ?_; refine jz ?_; refine jy (y_len_str rfl) ?_; refine jy (y_neq rfl rfl) ?_; refine jl_prop (fun h13 => ?_) (fun h13 => ?_)
 ·first | (exfalso; omega) | (refine jz ?_; (iterate 3 refine jsk ?_); refine jy (y_pick_true rfl rfl) ?_; refine jz ?_; (iterate 2 refine jsk ?_); refine jy (y_pick_true rfl rfl) ?_; refine jnt ?_; refine jc_true rfl ?_; refine jsr ?_; (iterate 2 refine jz ?_); refine jnt ?_; refine jc_ret ?_; refine jq_then_ret ?_; refine jq_ret2 rfl rfl rfl ?_; exact fun _ hw => ⟨by have f := @up_bad x i ps (fun h2 => by have h3 := h2.1; have h4 := h2.2.1; have h5 := h2.2.2.2.1; omega); rw [f.1, f.2] <;> rfl, hw.ch⟩)
 ·first | (exfalso; omega) | (
   (iterate 2 refine jz ?_); refine jy (y_len_slice rfl) ?_; refine jy (y_gtr rfl rfl) ?_; refine jl_prop (fun h17 => ?_) (fun h17 => ?_)
   ·first | (exfalso; omega) | (refine jy (y_pick_false rfl rfl) ?_; refine jz ?_; (iterate 2 refine jsk ?_); refine jy (y_pick_true rfl rfl) ?_; refine jnt ?_; refine jc_true rfl ?_; refine jsr ?_; (iterate 2 refine jz ?_); refine jnt ?_; refine jc_ret ?_; refine jq_then_ret ?_; refine jq_ret2 rfl rfl rfl ?_; exact fun _ hw => ⟨by have f := @up_bad x i ps (fun h2 => by have h3 := h2.1; have h4 := h2.2.1; have h5 := h2.2.2.2.1; omega); rw [f.1, f.2] <;> rfl, hw.ch⟩)
   ·first | (exfalso; omega) | (
     refine jy (y_pick_false rfl rfl) ?_; (iterate 2 refine jz ?_); refine jy (y_lss rfl rfl) ?_; refine jl_prop (fun h21 => ?_) (fun h21 => ?_)
     ·first | (exfalso; omega) | (refine jy (y_pick_false rfl rfl) ?_; refine jnt ?_; refine jc_true rfl ?_; refine jsr ?_; (iterate 2 refine jz ?_); refine jnt ?_; refine jc_ret ?_; refine jq_then_ret ?_; refine jq_ret2 rfl rfl rfl ?_; exact fun _ hw => ⟨by have f := @up_bad x i ps (fun h2 => by have h3 := h2.1; have h4 := h2.2.1; have h5 := h2.2.2.2.1; omega); rw [f.1, f.2] <;> rfl, hw.ch⟩)
     ·first | (exfalso; omega) | (
       refine jy (y_pick_false rfl rfl) ?_; refine jnt ?_; refine jc_false rfl ?_; refine jc_skip ?_; refine jq_then ?_; refine jc_seq ?_
       obtain ⟨j, rfl⟩ : ∃ j : Nat, i = (j : Int) := ⟨i.toNat, by omega⟩
       have hx16 : x.size = 16 := by omega
       simp only [fits] at hi0
       refine jc_region ?_; (iterate 4 refine jz ?_); refine jnt ?_; refine jc_seq ?_; refine jsr ?_; refine jz ?_; refine jnt ?_; refine jc_block ?_; refine jc_loop (fun (k : Nat) => [(2, .slice ad ps.length c), (8, .string (upK x j ps k)), (9, .int .i64 ((hf j k : Nat) : Int)), (10, .int .i64 (k : Nat))]) (fun (k : Nat) => fun w' => (k ≤ ps.length ∧ ∀ q, q < k → (at0 ps q).size = 16) ∧ Hp w [] [] w') (fun (k : Nat) => ps.length - k) 0 ?_ ?_ ?_
       ·exact ⟨rfl, rfl, lk_int rfl (by rw [hf_zero]), rfl, trivial⟩
       ·exact fun _ h => ⟨⟨by omega, fun q hq => absurd hq (by omega)⟩, h⟩
       ·intro k
        refine jc_and (fun hk2 => ?_)
        obtain ⟨hk, hall⟩ := hk2
        have hd0 : 0 ≤ ((hf j k : Nat) : Int) := by omega
        have hdj : hf j k ≤ j := Nat.div_le_self _ _
        refine jc_seq ?_; refine jsr ?_; (iterate 2 refine jz ?_); refine jy (y_len_slice rfl) ?_; refine jy (y_lss rfl rfl) ?_; refine jl_prop (fun h28 => ?_) (fun h28 => ?_)
        ·first | (exfalso; omega) | (
          obtain ⟨bb, oo, rfl, hc⟩ := hps (k) _ (at0_some (show k < (ps).length by omega))
          refine jnt ?_; refine jc_true rfl ?_; refine jc_skip ?_; refine jq_then ?_; refine jc_seq ?_; refine jc_block ?_; refine jc_seq ?_; refine jsr ?_; (iterate 2 refine jz ?_); refine jy (y_indexAddr_slice (off := oo + k) rfl rfl (by omega) (by omega) (by omega)) ?_; refine jy (y_load_old rfl hc (by simp)) ?_; refine jy (y_len_str rfl) ?_; refine jy (y_neq rfl rfl) ?_; refine jl_prop (fun h36 => ?_) (fun h36 => ?_)
          ·first | (exfalso; omega) | (refine jnt ?_; refine jc_true rfl ?_; refine jsr ?_; (iterate 2 refine jz ?_); refine jnt ?_; refine jc_ret ?_; refine jq_then_ret ?_; refine jq_block_ret ?_; (iterate 2 refine jq_then_ret ?_); refine jq_block_ret ?_; refine jq_then_ret ?_; refine jq_ret2 rfl rfl rfl ?_; exact fun _ hw => ⟨by have f := @up_bad x ((j : Nat) : Int) ps (fun h2 => by have h3 := h2.2.2.1 _ (at0_mem (show k < ps.length by omega)); omega); rw [f.1, f.2] <;> rfl, hw.ch⟩)
          ·first | (exfalso; omega) | (
            have hs0 : (at0 ps k).size = 16 := by omega
            have hs1 := upK_size hx16 j ps k
            refine jnt ?_; refine jc_false rfl ?_; refine jc_skip ?_; refine jq_then ?_; refine jc_seq ?_; refine jsr ?_; refine jz ?_; refine jy (y_rem rfl rfl (by omega) (by omega)) ?_; refine jy (y_eql rfl rfl) ?_; refine jl_prop (fun h39 => ?_) (fun h39 => ?_)
            ·first | (exfalso; omega) | (
              refine jnt ?_; refine jc_true rfl ?_; refine jc_region ?_; (iterate 3 refine jz ?_); refine jy (y_indexAddr_slice (off := oo + k) rfl rfl (by omega) (by omega) (by omega)) ?_; refine jy (y_load_old rfl hc (by simp)) ?_; refine jl_m rfl (by decide) rfl (m_buildSlice (by decide) (Built.cell rfl rfl rfl (by repeat constructor) (Built.cell rfl rfl rfl (by repeat constructor) Built.nil))) (fun b45 => ?_); refine jpc (goes_func rfl) (fun w1 hw1 => rtag_any strNode (some ⟨b45, 0, none⟩) 2 [upK x j ps k, at0 ps k] w1 (by decide) (by simp) (all2 (by omega) (by omega)) (Strs.of_row (hw1.get mem0))) ?_; refine jl_as (u := .string (upK x j ps (k + 1))) (congrArg Value.string (upK_even h39).symm) ?_; refine jz ?_; refine jnt ?_; refine jc_region ?_; refine jz ?_; refine jy (y_quo rfl rfl (by omega) (by omega) (by simp only [fits]; omega)) ?_; refine jl_as (congrArg _ (hf_step j k)) ?_; refine jz ?_; refine jl_nil ?_; refine jq_block ?_; refine jq_then ?_; refine jc_region ?_; refine jz ?_; refine jy (yaf rfl rfl) ?_; refine jz ?_; refine jl_nil ?_; refine jq_round (i := k) (k + 1) ?_ ?_ ?_
              ·omega
              ·exact ⟨rfl, rfl, rfl, lk_int rfl (by omega), trivial⟩
              ·exact fun _ h => ⟨⟨by omega, fun q hq => (Nat.lt_succ_iff_lt_or_eq.1 hq).elim (hall q) (fun e => by subst e; exact hs0)⟩, (by first | exact h | exact h.part .nil)⟩
              )
            ·first | (exfalso; omega) | (
              refine jnt ?_; refine jc_false rfl ?_; refine jc_region ?_; (iterate 2 refine jz ?_); refine jy (y_indexAddr_slice (off := oo + k) rfl rfl (by omega) (by omega) (by omega)) ?_; refine jy (y_load_old rfl hc (by simp)) ?_; refine jz ?_; refine jl_m rfl (by decide) rfl (m_buildSlice (by decide) (Built.cell rfl rfl rfl (by repeat constructor) (Built.cell rfl rfl rfl (by repeat constructor) Built.nil))) (fun b52 => ?_); refine jpc (goes_func rfl) (fun w1 hw1 => rtag_any strNode (some ⟨b52, 0, none⟩) 2 [at0 ps k, upK x j ps k] w1 (by decide) (by simp) (all2 (by omega) (by omega)) (Strs.of_row (hw1.get mem0))) ?_; refine jl_as (u := .string (upK x j ps (k + 1))) (congrArg Value.string (upK_odd h39).symm) ?_; refine jz ?_; refine jnt ?_; refine jc_region ?_; refine jz ?_; refine jy (y_quo rfl rfl (by omega) (by omega) (by simp only [fits]; omega)) ?_; refine jl_as (congrArg _ (hf_step j k)) ?_; refine jz ?_; refine jl_nil ?_; refine jq_block ?_; refine jq_then ?_; refine jc_region ?_; refine jz ?_; refine jy (yaf rfl rfl) ?_; refine jz ?_; refine jl_nil ?_; refine jq_round (i := k) (k + 1) ?_ ?_ ?_
              ·omega
              ·exact ⟨rfl, rfl, rfl, lk_int rfl (by omega), trivial⟩
              ·exact fun _ h => ⟨⟨by omega, fun q hq => (Nat.lt_succ_iff_lt_or_eq.1 hq).elim (hall q) (fun e => by subst e; exact hs0)⟩, (by first | exact h | exact h.part .nil)⟩
              )
            )
          )
        ·first | (exfalso; omega) | (
          refine jnt ?_; refine jc_false rfl ?_; refine jc_exit ?_; (iterate 2 refine jq_then_exit ?_); refine jq_hit ?_; refine jq_then ?_; refine jc_seq ?_; refine jsr ?_; refine jz ?_; refine jy (y_gtr rfl rfl) ?_; refine jl_prop (fun h57 => ?_) (fun h57 => ?_)
          ·first | (exfalso; omega) | (refine jnt ?_; refine jc_true rfl ?_; refine jsr ?_; (iterate 2 refine jz ?_); refine jnt ?_; refine jc_ret ?_; refine jq_then_ret ?_; refine jq_ret2 rfl rfl rfl ?_; exact fun _ hw => ⟨by have f := @up_bad x ((j : Nat) : Int) ps (fun h2 => idx_pow' h57 (by have e : k = ps.length := (by omega); rw [e]; exact h2.2.2.2.2)); rw [f.1, f.2] <;> rfl, hw.ch⟩)
          ·first | (exfalso; omega) | (
            refine jnt ?_; refine jc_false rfl ?_; refine jc_skip ?_; refine jq_then ?_; refine jc_seq ?_
            have hs1 := upK_size hx16 j ps k
            have hk2 : k = ps.length := by omega
            subst hk2
            refine jc_region ?_; refine jz ?_; refine jy (y_len_slice rfl) ?_; refine jpc (goes_func rfl) (fun w1 hw1 => r7one_any _ w1) ?_; refine jz ?_; refine jl_m rfl (by decide) rfl (m_buildSlice (by decide) (Built.cell rfl rfl rfl (by repeat constructor) (Built.cell rfl rfl rfl (by repeat constructor) Built.nil))) (fun b62 => ?_); refine jpc (goes_func rfl) (fun w1 hw1 => rtag_any strRoot (some ⟨b62, 0, none⟩) 2 [oneB ((ps.length : Nat) : Int), upK x j ps ps.length] w1 (by decide) (by simp) (all2 (by rw [oneB_size]; decide) (by omega)) (Strs.of_row (hw1.get mem0))) ?_; (iterate 2 refine jz ?_); refine jnt ?_; refine jc_ret ?_; refine jq_ret2 rfl rfl rfl ?_; exact fun _ hw => ⟨by have f := up_ok ⟨hx16, by omega, all16 hall rfl, by omega, idx_pow h57⟩; rw [f.1, f.2, Int.toNat_natCast] <;> rfl, hw.ch⟩
            )
          )
       )
     )
   )

theorem rleaf_any (sig : ByteArray) (w : World) (hsz : sig.size ≤ 1000000) :
  Calls Tryz.prog 109 #[.string sig] w fun e w' => e = .returned (.tuple #[.int .i64 (leafV sig), .int .i64 (leafE sig)]) ∧ Ch [] w w' := by
 have hb0 := byte0_range sig
 refine calls_of (n := 26) (E := [(0, .string sig)]) (W := Hp w [] []) Tryz.func109 rfl rfl (Nat.le_of_ble_eq_true rfl) rfl (Hp.nil _ _) ?_; refine jsr ?_; (iterate 2 refine jz ?_); refine jnt ?_; refine jsr ?_; refine jz ?_; refine jnt ?_; refine jc_seq ?_; refine jsr ?_; refine jz ?_; refine jnt ?_; refine jc_block ?_; refine jc_rounds 6 ?_; refine jr_succ ?_; refine jc_seq ?_; refine jsr ?_; refine jz ?_; refine jy (y_leq rfl rfl) ?_; refine jl_prop (fun h7 => ?_) (fun h7 => ?_)
 ·skip
  refine jnt ?_; refine jc_true rfl ?_; refine jc_skip ?_; refine jq_then ?_; refine jc_seq ?_; refine jc_block ?_; refine jc_seq ?_; refine jsr ?_; refine jz ?_; refine jy (y_len_str rfl) ?_; refine jz ?_; refine jy (y_mul_fits rfl rfl (by simp only [fits]; omega)) ?_; refine jy (yaf rfl rfl) ?_; refine jy (y_eql rfl rfl) ?_; refine jl_prop (fun h15 => ?_) (fun h15 => ?_)
  ·first | (exfalso; omega) | (
    refine jnt ?_; refine jc_true rfl ?_; refine jc_seq ?_; refine jsr ?_; refine jz ?_; refine jy (y_at_str rfl rfl (by omega) (by omega)) ?_; refine jl_as (u := .int .u8 (byte0 sig)) (congrArg (Value.int .u8) (bAt_ints sig 0)) ?_
    first | refine jy (y_conv_fits rfl (by simp only [fits]; omega)) ?_
    refine jz ?_; refine jy (y_lss rfl rfl) ?_; refine jl_prop (fun h20 => ?_) (fun h20 => ?_)
    ·first | (exfalso; omega) | (
      refine jnt ?_; refine jc_true rfl ?_; refine jsr ?_; refine jz ?_; refine jy (y_at_str rfl rfl (by omega) (by omega)) ?_; refine jl_as (u := .int .u8 (byte0 sig)) (congrArg (Value.int .u8) (bAt_ints sig 0)) ?_
      first | refine jy (y_conv_fits rfl (by simp only [fits]; omega)) ?_
      (iterate 2 refine jz ?_); refine jnt ?_; refine jc_ret ?_; (iterate 2 refine jq_then_ret ?_); refine jq_block_ret ?_; (iterate 2 refine jq_then_ret ?_); refine jq_block_ret ?_; refine jq_then_ret ?_; refine jq_ret2 rfl rfl rfl ?_; exact fun _ hw => ⟨by have f := leaf_ok (sig := sig) ⟨by omega, by omega, by omega, by have e : (sig.size - 289) / 16 = 0 := (by omega); rw [e]; show byte0 sig < 1; omega⟩; rw [f.1, f.2] <;> rfl, hw.ch⟩
      )
    ·first | (exfalso; omega) | (refine jnt ?_; refine jc_false rfl ?_; refine jc_skip ?_; refine jq_then ?_; refine jsr ?_; (iterate 2 refine jz ?_); refine jnt ?_; refine jc_ret ?_; refine jq_then_ret ?_; refine jq_block_ret ?_; (iterate 2 refine jq_then_ret ?_); refine jq_block_ret ?_; refine jq_then_ret ?_; refine jq_ret2 rfl rfl rfl ?_; exact fun _ hw => ⟨by have f := leaf_bad (sig := sig) (fun h2 => by have h3 := h2.2.2.2; have e : (sig.size - 289) / 16 = 0 := (by omega); rw [e] at h3; have h4 : byte0 sig < 1 := h3; omega); rw [f.1, f.2] <;> rfl, hw.ch⟩)
    )
  ·first | (exfalso; omega) | (
    refine jnt ?_; refine jc_false rfl ?_; refine jc_skip ?_; refine jq_then ?_; refine jc_region ?_; refine jz ?_; refine jy (y_mul_fits rfl rfl (by simp only [fits]; omega)) ?_; refine jz ?_; refine jl_nil ?_; refine jq_block ?_; refine jq_then ?_; refine jc_region ?_; refine jz ?_; refine jy (yaf rfl rfl) ?_; refine jz ?_; refine jl_nil ?_; refine jq_again ?_; refine jr_succ ?_; refine jc_seq ?_; refine jsr ?_; refine jz ?_; refine jy (y_leq rfl rfl) ?_; refine jl_prop (fun h7 => ?_) (fun h7 => ?_)
    ·skip
     refine jnt ?_; refine jc_true rfl ?_; refine jc_skip ?_; refine jq_then ?_; refine jc_seq ?_; refine jc_block ?_; refine jc_seq ?_; refine jsr ?_; refine jz ?_; refine jy (y_len_str rfl) ?_; refine jz ?_; refine jy (y_mul_fits rfl rfl (by simp only [fits]; omega)) ?_; refine jy (yaf rfl rfl) ?_; refine jy (y_eql rfl rfl) ?_; refine jl_prop (fun h15 => ?_) (fun h15 => ?_)
     ·first | (exfalso; omega) | (
       refine jnt ?_; refine jc_true rfl ?_; refine jc_seq ?_; refine jsr ?_; refine jz ?_; refine jy (y_at_str rfl rfl (by omega) (by omega)) ?_; refine jl_as (u := .int .u8 (byte0 sig)) (congrArg (Value.int .u8) (bAt_ints sig 0)) ?_
       first | refine jy (y_conv_fits rfl (by simp only [fits]; omega)) ?_
       refine jz ?_; refine jy (y_lss rfl rfl) ?_; refine jl_prop (fun h20 => ?_) (fun h20 => ?_)
       ·first | (exfalso; omega) | (
         refine jnt ?_; refine jc_true rfl ?_; refine jsr ?_; refine jz ?_; refine jy (y_at_str rfl rfl (by omega) (by omega)) ?_; refine jl_as (u := .int .u8 (byte0 sig)) (congrArg (Value.int .u8) (bAt_ints sig 0)) ?_
         first | refine jy (y_conv_fits rfl (by simp only [fits]; omega)) ?_
         (iterate 2 refine jz ?_); refine jnt ?_; refine jc_ret ?_; (iterate 2 refine jq_then_ret ?_); refine jq_block_ret ?_; (iterate 2 refine jq_then_ret ?_); refine jq_block_ret ?_; refine jq_then_ret ?_; refine jq_ret2 rfl rfl rfl ?_; exact fun _ hw => ⟨by have f := leaf_ok (sig := sig) ⟨by omega, by omega, by omega, by have e : (sig.size - 289) / 16 = 1 := (by omega); rw [e]; show byte0 sig < 2; omega⟩; rw [f.1, f.2] <;> rfl, hw.ch⟩
         )
       ·first | (exfalso; omega) | (refine jnt ?_; refine jc_false rfl ?_; refine jc_skip ?_; refine jq_then ?_; refine jsr ?_; (iterate 2 refine jz ?_); refine jnt ?_; refine jc_ret ?_; refine jq_then_ret ?_; refine jq_block_ret ?_; (iterate 2 refine jq_then_ret ?_); refine jq_block_ret ?_; refine jq_then_ret ?_; refine jq_ret2 rfl rfl rfl ?_; exact fun _ hw => ⟨by have f := leaf_bad (sig := sig) (fun h2 => by have h3 := h2.2.2.2; have e : (sig.size - 289) / 16 = 1 := (by omega); rw [e] at h3; have h4 : byte0 sig < 2 := h3; omega); rw [f.1, f.2] <;> rfl, hw.ch⟩)
       )
     ·first | (exfalso; omega) | (
       refine jnt ?_; refine jc_false rfl ?_; refine jc_skip ?_; refine jq_then ?_; refine jc_region ?_; refine jz ?_; refine jy (y_mul_fits rfl rfl (by simp only [fits]; omega)) ?_; refine jz ?_; refine jl_nil ?_; refine jq_block ?_; refine jq_then ?_; refine jc_region ?_; refine jz ?_; refine jy (yaf rfl rfl) ?_; refine jz ?_; refine jl_nil ?_; refine jq_again ?_; refine jr_succ ?_; refine jc_seq ?_; refine jsr ?_; refine jz ?_; refine jy (y_leq rfl rfl) ?_; refine jl_prop (fun h7 => ?_) (fun h7 => ?_)
       ·skip
        refine jnt ?_; refine jc_true rfl ?_; refine jc_skip ?_; refine jq_then ?_; refine jc_seq ?_; refine jc_block ?_; refine jc_seq ?_; refine jsr ?_; refine jz ?_; refine jy (y_len_str rfl) ?_; refine jz ?_; refine jy (y_mul_fits rfl rfl (by simp only [fits]; omega)) ?_; refine jy (yaf rfl rfl) ?_; refine jy (y_eql rfl rfl) ?_; refine jl_prop (fun h15 => ?_) (fun h15 => ?_)
        ·first | (exfalso; omega) | (
          refine jnt ?_; refine jc_true rfl ?_; refine jc_seq ?_; refine jsr ?_; refine jz ?_; refine jy (y_at_str rfl rfl (by omega) (by omega)) ?_; refine jl_as (u := .int .u8 (byte0 sig)) (congrArg (Value.int .u8) (bAt_ints sig 0)) ?_
          first | refine jy (y_conv_fits rfl (by simp only [fits]; omega)) ?_
          refine jz ?_; refine jy (y_lss rfl rfl) ?_; refine jl_prop (fun h20 => ?_) (fun h20 => ?_)
          ·first | (exfalso; omega) | (
            refine jnt ?_; refine jc_true rfl ?_; refine jsr ?_; refine jz ?_; refine jy (y_at_str rfl rfl (by omega) (by omega)) ?_; refine jl_as (u := .int .u8 (byte0 sig)) (congrArg (Value.int .u8) (bAt_ints sig 0)) ?_
            first | refine jy (y_conv_fits rfl (by simp only [fits]; omega)) ?_
            (iterate 2 refine jz ?_); refine jnt ?_; refine jc_ret ?_; (iterate 2 refine jq_then_ret ?_); refine jq_block_ret ?_; (iterate 2 refine jq_then_ret ?_); refine jq_block_ret ?_; refine jq_then_ret ?_; refine jq_ret2 rfl rfl rfl ?_; exact fun _ hw => ⟨by have f := leaf_ok (sig := sig) ⟨by omega, by omega, by omega, by have e : (sig.size - 289) / 16 = 2 := (by omega); rw [e]; show byte0 sig < 4; omega⟩; rw [f.1, f.2] <;> rfl, hw.ch⟩
            )
          ·first | (exfalso; omega) | (refine jnt ?_; refine jc_false rfl ?_; refine jc_skip ?_; refine jq_then ?_; refine jsr ?_; (iterate 2 refine jz ?_); refine jnt ?_; refine jc_ret ?_; refine jq_then_ret ?_; refine jq_block_ret ?_; (iterate 2 refine jq_then_ret ?_); refine jq_block_ret ?_; refine jq_then_ret ?_; refine jq_ret2 rfl rfl rfl ?_; exact fun _ hw => ⟨by have f := leaf_bad (sig := sig) (fun h2 => by have h3 := h2.2.2.2; have e : (sig.size - 289) / 16 = 2 := (by omega); rw [e] at h3; have h4 : byte0 sig < 4 := h3; omega); rw [f.1, f.2] <;> rfl, hw.ch⟩)
          )
        ·first | (exfalso; omega) | (
          refine jnt ?_; refine jc_false rfl ?_; refine jc_skip ?_; refine jq_then ?_; refine jc_region ?_; refine jz ?_; refine jy (y_mul_fits rfl rfl (by simp only [fits]; omega)) ?_; refine jz ?_; refine jl_nil ?_; refine jq_block ?_; refine jq_then ?_; refine jc_region ?_; refine jz ?_; refine jy (yaf rfl rfl) ?_; refine jz ?_; refine jl_nil ?_; refine jq_again ?_; refine jr_succ ?_; refine jc_seq ?_; refine jsr ?_; refine jz ?_; refine jy (y_leq rfl rfl) ?_; refine jl_prop (fun h7 => ?_) (fun h7 => ?_)
          ·skip
           refine jnt ?_; refine jc_true rfl ?_; refine jc_skip ?_; refine jq_then ?_; refine jc_seq ?_; refine jc_block ?_; refine jc_seq ?_; refine jsr ?_; refine jz ?_; refine jy (y_len_str rfl) ?_; refine jz ?_; refine jy (y_mul_fits rfl rfl (by simp only [fits]; omega)) ?_; refine jy (yaf rfl rfl) ?_; refine jy (y_eql rfl rfl) ?_; refine jl_prop (fun h15 => ?_) (fun h15 => ?_)
           ·first | (exfalso; omega) | (
             refine jnt ?_; refine jc_true rfl ?_; refine jc_seq ?_; refine jsr ?_; refine jz ?_; refine jy (y_at_str rfl rfl (by omega) (by omega)) ?_; refine jl_as (u := .int .u8 (byte0 sig)) (congrArg (Value.int .u8) (bAt_ints sig 0)) ?_
             first | refine jy (y_conv_fits rfl (by simp only [fits]; omega)) ?_
             refine jz ?_; refine jy (y_lss rfl rfl) ?_; refine jl_prop (fun h20 => ?_) (fun h20 => ?_)
             ·first | (exfalso; omega) | (
               refine jnt ?_; refine jc_true rfl ?_; refine jsr ?_; refine jz ?_; refine jy (y_at_str rfl rfl (by omega) (by omega)) ?_; refine jl_as (u := .int .u8 (byte0 sig)) (congrArg (Value.int .u8) (bAt_ints sig 0)) ?_
               first | refine jy (y_conv_fits rfl (by simp only [fits]; omega)) ?_
               (iterate 2 refine jz ?_); refine jnt ?_; refine jc_ret ?_; (iterate 2 refine jq_then_ret ?_); refine jq_block_ret ?_; (iterate 2 refine jq_then_ret ?_); refine jq_block_ret ?_; refine jq_then_ret ?_; refine jq_ret2 rfl rfl rfl ?_; exact fun _ hw => ⟨by have f := leaf_ok (sig := sig) ⟨by omega, by omega, by omega, by have e : (sig.size - 289) / 16 = 3 := (by omega); rw [e]; show byte0 sig < 8; omega⟩; rw [f.1, f.2] <;> rfl, hw.ch⟩
               )
             ·first | (exfalso; omega) | (refine jnt ?_; refine jc_false rfl ?_; refine jc_skip ?_; refine jq_then ?_; refine jsr ?_; (iterate 2 refine jz ?_); refine jnt ?_; refine jc_ret ?_; refine jq_then_ret ?_; refine jq_block_ret ?_; (iterate 2 refine jq_then_ret ?_); refine jq_block_ret ?_; refine jq_then_ret ?_; refine jq_ret2 rfl rfl rfl ?_; exact fun _ hw => ⟨by have f := leaf_bad (sig := sig) (fun h2 => by have h3 := h2.2.2.2; have e : (sig.size - 289) / 16 = 3 := (by omega); rw [e] at h3; have h4 : byte0 sig < 8 := h3; omega); rw [f.1, f.2] <;> rfl, hw.ch⟩)
             )
           ·first | (exfalso; omega) | (
             refine jnt ?_; refine jc_false rfl ?_; refine jc_skip ?_; refine jq_then ?_; refine jc_region ?_; refine jz ?_; refine jy (y_mul_fits rfl rfl (by simp only [fits]; omega)) ?_; refine jz ?_; refine jl_nil ?_; refine jq_block ?_; refine jq_then ?_; refine jc_region ?_; refine jz ?_; refine jy (yaf rfl rfl) ?_; refine jz ?_; refine jl_nil ?_; refine jq_again ?_; refine jr_succ ?_; refine jc_seq ?_; refine jsr ?_; refine jz ?_; refine jy (y_leq rfl rfl) ?_; refine jl_prop (fun h7 => ?_) (fun h7 => ?_)
             ·skip
              refine jnt ?_; refine jc_true rfl ?_; refine jc_skip ?_; refine jq_then ?_; refine jc_seq ?_; refine jc_block ?_; refine jc_seq ?_; refine jsr ?_; refine jz ?_; refine jy (y_len_str rfl) ?_; refine jz ?_; refine jy (y_mul_fits rfl rfl (by simp only [fits]; omega)) ?_; refine jy (yaf rfl rfl) ?_; refine jy (y_eql rfl rfl) ?_; refine jl_prop (fun h15 => ?_) (fun h15 => ?_)
              ·first | (exfalso; omega) | (
                refine jnt ?_; refine jc_true rfl ?_; refine jc_seq ?_; refine jsr ?_; refine jz ?_; refine jy (y_at_str rfl rfl (by omega) (by omega)) ?_; refine jl_as (u := .int .u8 (byte0 sig)) (congrArg (Value.int .u8) (bAt_ints sig 0)) ?_
                first | refine jy (y_conv_fits rfl (by simp only [fits]; omega)) ?_
                refine jz ?_; refine jy (y_lss rfl rfl) ?_; refine jl_prop (fun h20 => ?_) (fun h20 => ?_)
                ·first | (exfalso; omega) | (
                  refine jnt ?_; refine jc_true rfl ?_; refine jsr ?_; refine jz ?_; refine jy (y_at_str rfl rfl (by omega) (by omega)) ?_; refine jl_as (u := .int .u8 (byte0 sig)) (congrArg (Value.int .u8) (bAt_ints sig 0)) ?_
                  first | refine jy (y_conv_fits rfl (by simp only [fits]; omega)) ?_
                  (iterate 2 refine jz ?_); refine jnt ?_; refine jc_ret ?_; (iterate 2 refine jq_then_ret ?_); refine jq_block_ret ?_; (iterate 2 refine jq_then_ret ?_); refine jq_block_ret ?_; refine jq_then_ret ?_; refine jq_ret2 rfl rfl rfl ?_; exact fun _ hw => ⟨by have f := leaf_ok (sig := sig) ⟨by omega, by omega, by omega, by have e : (sig.size - 289) / 16 = 4 := (by omega); rw [e]; show byte0 sig < 16; omega⟩; rw [f.1, f.2] <;> rfl, hw.ch⟩
                  )
                ·first | (exfalso; omega) | (refine jnt ?_; refine jc_false rfl ?_; refine jc_skip ?_; refine jq_then ?_; refine jsr ?_; (iterate 2 refine jz ?_); refine jnt ?_; refine jc_ret ?_; refine jq_then_ret ?_; refine jq_block_ret ?_; (iterate 2 refine jq_then_ret ?_); refine jq_block_ret ?_; refine jq_then_ret ?_; refine jq_ret2 rfl rfl rfl ?_; exact fun _ hw => ⟨by have f := leaf_bad (sig := sig) (fun h2 => by have h3 := h2.2.2.2; have e : (sig.size - 289) / 16 = 4 := (by omega); rw [e] at h3; have h4 : byte0 sig < 16 := h3; omega); rw [f.1, f.2] <;> rfl, hw.ch⟩)
                )
              ·first | (exfalso; omega) | (
                refine jnt ?_; refine jc_false rfl ?_; refine jc_skip ?_; refine jq_then ?_; refine jc_region ?_; refine jz ?_; refine jy (y_mul_fits rfl rfl (by simp only [fits]; omega)) ?_; refine jz ?_; refine jl_nil ?_; refine jq_block ?_; refine jq_then ?_; refine jc_region ?_; refine jz ?_; refine jy (yaf rfl rfl) ?_; refine jz ?_; refine jl_nil ?_; refine jq_again ?_; refine jr_succ ?_; refine jc_seq ?_; refine jsr ?_; refine jz ?_; refine jy (y_leq rfl rfl) ?_; refine jl_prop (fun h7 => ?_) (fun h7 => ?_)
                ·exfalso; omega
                ·skip
                 refine jnt ?_; refine jc_false rfl ?_; refine jc_exit ?_; (iterate 2 refine jq_then_exit ?_); refine jq_hit ?_; refine jq_then ?_; refine jsr ?_; (iterate 2 refine jz ?_); refine jnt ?_; refine jc_ret ?_; refine jq_ret2 rfl rfl rfl ?_; exact fun _ hw => ⟨by have f := leaf_bad (sig := sig) (fun h2 => by have h3 := h2.1; have h4 := h2.2.1; have h5 := h2.2.2.1; omega); rw [f.1, f.2] <;> rfl, hw.ch⟩
                )
             ·exfalso; omega
             )
          ·exfalso; omega
          )
       ·exfalso; omega
       )
    ·exfalso; omega
    )
 ·exfalso; omega

theorem rverifyK_any (root msg sig : ByteArray) (w : World) (hm : msg.size ≤ 900000) (hsz : sig.size ≤ 1000000) :
  Calls Tryz.prog 89 #[.string root, .string msg, .string sig] w fun e w' => e = .returned (.bool (verK root msg sig)) ∧ Ch [] w w' := by
 refine calls_of (n := 68) (E := [(0, .string root), (1, .string msg), (2, .string sig)]) (W := Hp w [] []) Tryz.func89 rfl rfl (Nat.le_of_ble_eq_true rfl) rfl (Hp.nil _ _) ?_; refine jsr ?_; refine jz ?_; refine jnt ?_; refine jsr ?_; refine jz ?_; refine jpc (goes_func rfl) (fun w1 hw1 => rleaf_any _ w1 (by omega)) ?_; (iterate 5 refine jz ?_); refine jnt ?_; refine jc_seq ?_; refine jsr ?_; refine jz ?_; refine jy (y_neq rfl rfl) ?_; refine jl_prop (fun h21 => ?_) (fun h21 => ?_)
 ·first | (exfalso; omega) | (refine jz ?_; (iterate 3 refine jsk ?_); refine jy (y_pick_true rfl rfl) ?_; refine jnt ?_; refine jc_true rfl ?_; refine jsr ?_; refine jz ?_; refine jnt ?_; refine jc_ret ?_; refine jq_then_ret ?_; refine jq_ret1 rfl rfl ?_; exact fun _ hw => ⟨by rw [ver_no (by omega)], hw.ch⟩)
 ·first | (exfalso; omega) | (
   (iterate 2 refine jz ?_); refine jy (y_len_str rfl) ?_; refine jy (y_neq rfl rfl) ?_; refine jl_prop (fun h25 => ?_) (fun h25 => ?_)
   ·first | (exfalso; omega) | (refine jy (y_pick_false rfl rfl) ?_; refine jnt ?_; refine jc_true rfl ?_; refine jsr ?_; refine jz ?_; refine jnt ?_; refine jc_ret ?_; refine jq_then_ret ?_; refine jq_ret1 rfl rfl ?_; exact fun _ hw => ⟨by rw [ver_no (by omega)], hw.ch⟩)
   ·first | (exfalso; omega) | (
     refine jy (y_pick_false rfl rfl) ?_; refine jnt ?_; refine jc_false rfl ?_; refine jc_skip ?_; refine jq_then ?_; refine jc_seq ?_
     have hlf : leafOk sig := Decidable.byContradiction (fun hn => by have := (leaf_bad hn).2; omega)
     have hlv := (leaf_ok hlf).1
     have hb0 := byte0_range sig
     have hrt : root.size = 16 := by omega
     obtain ⟨hl1, hl2, hl3, hl4⟩ := hlf
     obtain ⟨q, hq⟩ : ∃ q : Nat, q = (sig.size - 289) / 16 := ⟨_, rfl⟩
     refine jc_region ?_; refine jl_m rfl (by decide) rfl (m_buildSlice (by decide) Built.nil) (fun b27 => ?_); refine jz ?_; refine jnt ?_; refine jc_seq ?_; refine jsr ?_; refine jz ?_; refine jnt ?_; refine jc_block ?_; refine jc_loop3 (fun (j : Nat) (ad : Option Addr) (c : Nat) => [(0, .string root), (1, .string msg), (2, .string sig), (7, .int .i64 (leafV sig)), (9, .slice ad j c), (10, .int .i64 (289 + 16 * (j : Nat)))]) (fun (j : Nat) (ad : Option Addr) (c : Nat) => fun w' => j ≤ q ∧ Hp w [] [.row (ad) (j) (c) 9 1 ((partsN sig j).map .string)] w') (fun (j : Nat) (ad : Option Addr) (c : Nat) => q - j) 0 (some ⟨b27, 0, none⟩) 0 ?_ ?_ ?_
     ·exact ⟨rfl, rfl, rfl, rfl, rfl, rfl, trivial⟩
     ·exact fun _ h => ⟨by omega, h⟩
     ·intro j ad c
      refine jc_and (fun hj => ?_); refine jc_seq ?_; refine jsr ?_; (iterate 2 refine jz ?_); refine jy (y_len_str rfl) ?_; refine jy (y_lss rfl rfl) ?_; refine jl_prop (fun h31 => ?_) (fun h31 => ?_)
      ·first | (exfalso; omega) | (
        refine jnt ?_; refine jc_true rfl ?_; refine jc_skip ?_; refine jq_then ?_; refine jc_seq ?_; refine jc_block ?_; refine jc_region ?_; (iterate 4 refine jz ?_); refine jy (yaf rfl rfl) ?_; refine jy (y_substr rfl rfl rfl (by omega) (by omega) (by omega)) ?_; refine jl_as (u := .string (sig.extract (289 + 16 * j) (289 + 16 * j + 16))) (congrArg Value.string (by congr 1 <;> omega)) ?_; refine jl_m rfl (by decide) rfl (m_buildSlice (by decide) (Built.cell rfl rfl rfl (by repeat constructor) Built.nil)) (fun b40 => ?_); refine jl_m2 rfl (by decide) rfl (m_append rfl rfl (by first | exact del0 | exact del1 | exact del2 | exact del3 | exact del4) (by first | exact del0 | exact del1 | exact del2 | exact del3 | exact del4) rfl (by omega) (by omega)) (fun a41 c41 => ?_); refine jz ?_; refine jl_nil ?_; refine jq_block ?_; refine jq_then ?_; refine jc_region ?_; refine jz ?_; refine jy (yaf rfl rfl) ?_; refine jz ?_; refine jl_nil ?_; refine jq_round3 (i := j) (j := ad) (l := c) (j + 1) a41 c41 ?_ ?_ ?_
        ·omega
        ·exact ⟨rfl, rfl, rfl, rfl, rfl, lk_int rfl (by omega), trivial⟩
        ·exact fun _ h => ⟨by omega, h.cast (by rw [partsN_succ, List.map_append]; rfl)⟩
        )
      ·first | (exfalso; omega) | (
        refine jnt ?_; refine jc_false rfl ?_; refine jc_exit ?_; (iterate 2 refine jq_then_exit ?_); refine jq_hit ?_; refine jq_then ?_; refine jc_seq ?_; refine jc_draw (by kernel_rfl) (fun _ h => h.drew) ?_; (iterate 2 refine juz ?_); refine ju_call rfl (by decide) rfl (goes_func rfl) (fun w1 hw1 => pcall hw1 (r7one_any _ w1)) ?_; refine juy (y_concat rfl rfl (by simp only [ByteArray.size_append, oneB_size]; omega)) ?_; refine juz ?_; refine juy (y_concat rfl rfl (by simp only [ByteArray.size_append, oneB_size]; omega)) ?_; refine ju_as (u := .string (aboutS root (leafV sig) msg)) rfl ?_; refine juz ?_; refine juy (y_substr rfl rfl rfl (by omega) (by omega) (by omega)) ?_; refine ju_as (u := .string (sig.extract 1 289)) rfl ?_; refine ju_call rfl (by decide) rfl (goes_func rfl) (fun w1 hw1 => pcall hw1 (rfrom_any _ _ w1 (by rw [aboutS_size]; omega))) ?_; (iterate 5 refine juz ?_); refine ju_nil ?_; refine jq_then ?_; refine jsr ?_; (iterate 3 refine jz ?_); refine jl_as (u := .slice ad (partsS sig).length c) (by have e : j = q := (by omega); rw [e, hq]; unfold partsS; rw [partsN_length]) ?_; refine jpc (goes_func rfl) (fun w1 hw1 => rup_any _ _ _ _ (partsS sig) w1 (by unfold partsS; rw [partsN_length]; omega) (by have e : j = (sig.size - 289) / 16 := (by omega); have h2 := Strs.of_own (hw1.get mem0); rw [e] at h2; exact h2) (by simp only [fits]; omega)) ?_; (iterate 5 refine jz ?_); refine jnt ?_; refine jsr ?_; refine jz ?_; refine jy (y_eql rfl rfl) ?_; refine jl_prop (fun h62 => ?_) (fun h62 => ?_)
        ·first | (exfalso; omega) | ((iterate 3 refine jz ?_); refine jy (y_seql rfl rfl) ?_; refine jy (y_pick_true rfl rfl) ?_; refine jz ?_; refine jnt ?_; refine jc_ret ?_; refine jq_ret1 rfl rfl ?_; exact fun _ hw => ⟨by rw [ver_yes ⟨by omega, hrt⟩]; clear hlv; simp [*], hw.ch⟩)
        ·first | (exfalso; omega) | (refine jz ?_; (iterate 3 refine jsk ?_); refine jy (y_pick_false rfl rfl) ?_; refine jz ?_; refine jnt ?_; refine jc_ret ?_; refine jq_ret1 rfl rfl ?_; exact fun _ hw => ⟨by rw [ver_yes ⟨by omega, hrt⟩]; clear hlv; simp [*], hw.ch⟩)
        )
     )
   )

end Go.Proofs.YtghomncegjamfaaGreat