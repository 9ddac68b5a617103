/- The walks of package turnstileref07, part two. Written by program (walk.py) out of a table of contracts and invariants. -/
import Derived.Test.YtbemnhllcpopbaaRk
namespace Go.Proofs.Ytbemnhllcpopbaa
open Go.RowKit
set_option maxRecDepth 100000
set_option linter.unusedVariables false
set_option linter.unusedSimpArgs false
theorem row_even {l : List ByteArray} {h k : Nat} (hl : l.length = 2 ^ h) (hk : k < h) : (rowN l k).length % 2 = 0 := by
  rw [row_pow hl (Nat.le_of_lt hk), show h - k = (h - k - 1) + 1 by omega, Nat.pow_succ]
  exact Nat.mul_mod_left _ _
theorem rows_apart {w0 w : World} {S : List Nat} {H : List HA} {a a' : Option Addr} {n c e s n' c' e' s' : Nat} {xs xs' : List Value} (h : Hp w0 S (.row a n c e s xs :: .row a' n' c' e' s' xs' :: H) w) : ∀ b o, a = some ⟨b, o, none⟩ → b ∉ rowBlk a' := fun b o e hm => by
  obtain ⟨o2, b2, e2⟩ := rowBlk_mem hm
  refine (List.pairwise_cons.1 h.apart).1 _ (.head _) b ?_ ?_
  · subst e; rfl
  · subst e2; rfl
theorem rowBlk_own {w : World} {a : Option Addr} {n c e s : Nat} {xs : List Value} : ∀ k ∈ rowBlk a, ∃ A ∈ [HA.row a n c e s xs], A.foot = some k := fun k hk => by
  obtain ⟨o, b, rfl⟩ := rowBlk_mem hk
  exact ⟨_, .head _, rfl⟩
theorem feet_one {a : Option Addr} {n c e s : Nat} {xs : List Value} : ∀ A ∈ [HA.row a n c e s xs], ∀ k, A.foot = some k → k ∈ rowBlk a := fun A hA k hk => by
  rw [List.mem_singleton.1 hA] at hk
  exact rowBlk_foot hk
def hf (i k : Nat) : Nat := i / 2 ^ k
theorem hf_zero (i : Nat) : hf i 0 = i := by simp [hf]
theorem hf_step (i k : Nat) : ((hf i k : Nat) : Int) / 2 = ((hf i (k + 1) : Nat) : Int) := half_step i k
theorem idx_pow {j n : Nat} (h : ¬ 0 < ((hf j n : Nat) : Int)) : (j : Int) < ((2 ^ n : Nat) : Int) := by
  have h1 : hf j n = 0 := by omega
  have h2 := (Nat.div_eq_zero_iff_lt (Nat.two_pow_pos n)).1 h1
  omega
theorem idx_pow' {j n : Nat} (h : 0 < ((hf j n : Nat) : Int)) : ¬ (j : Int) < ((2 ^ n : Nat) : Int) := fun h3 => by
  have h1 : hf j n = 0 := (Nat.div_eq_zero_iff_lt (Nat.two_pow_pos n)).2 (by omega)
  omega
theorem mod_nat {d : Nat} (h : ((d : Nat) : Int) % 2 = 0) : d % 2 = 0 := by omega
theorem mod_nat' {d : Nat} (h : ¬ ((d : Nat) : Int) % 2 = 0) : ¬ d % 2 = 0 := by omega

theorem rpath_ok (ad : Option Addr) (c : Nat) (ps : List ByteArray) (w : World) (hl : ps.length ≤ 1000000) (hps : Strs w ad ps) (i : Nat) (hok : okL ps) (hi : i < ps.length) :
    Calls Try.prog 13 #[.slice ad ps.length c, .int .i64 (i : Nat)] w fun e w' => ∃ p : Option Addr × Nat, e = .returned (.tuple #[.slice p.1 (pathV ps (i : Nat)).length p.2, .int .i64 (pathE ps (i : Nat))]) ∧ Fresh w w' (.row (p.1) ((pathV ps (i : Nat)).length) (p.2) 9 1 ((pathV ps (i : Nat)).map .string)) := by
  obtain ⟨hpw, ht4⟩ := okL_length hok
  have hs16 := hok.2
  have htv := tallV_ok hok
  have hp16 := pow_le16 ht4
  have hpo := @path_ok ps (i : Nat) ⟨hok, by omega, by omega⟩
  rw [Int.toNat_natCast] at hpo
  refine calls_of (n := 52) (E := [(0, .slice ad ps.length c), (1, .int .i64 (i : Nat))]) (W := Hp w [] []) Try.func13 rfl rfl (Nat.le_of_ble_eq_true rfl) rfl (Hp.nil _ _) ?_
  refine jc_seq ?_
  -- region 0
  refine jc_region ?_
  refine jl_y rfl (by decide) rfl (y_assign rfl) ?_
  refine jl_y rfl (by decide) rfl (y_assign rfl) ?_
  refine jl_nil ?_
  refine jq_then ?_
  refine jc_seq ?_
  refine jc_seq ?_
  -- region 1
  refine jc_region ?_
  refine jl_y rfl (by decide) rfl (y_move rfl) ?_
  refine jl_pcall rfl (by decide) rfl (goes_func rfl) (fun w1 hw1 => pcall hw1 (tall_any _ _ _ w1 (by omega) (hps.keep hw1))) ?_
  refine jl_as (u := .int .i64 ((tallL ps : Nat) : Int)) (congrArg _ htv) ?_
  refine jl_y rfl (by decide) rfl (y_lss rfl rfl) ?_
  refine jl_prop (fun h11 => ?_) (fun h11 => ?_)
  · first
    | (exfalso; omega)
    | (
      refine jl_y rfl (by decide) rfl (y_move rfl) ?_
      refine jl_skip rfl (by decide) rfl ?_
      refine jl_skip rfl (by decide) rfl ?_
      refine jl_y rfl (by decide) rfl (y_pick_true rfl rfl) ?_
      refine jl_y rfl (by decide) rfl (y_move rfl) ?_
      refine jl_skip rfl (by decide) rfl ?_
      refine jl_skip rfl (by decide) rfl ?_
      refine jl_skip rfl (by decide) rfl ?_
      refine jl_skip rfl (by decide) rfl ?_
      refine jl_y rfl (by decide) rfl (y_pick_true rfl rfl) ?_
      refine jl_nil ?_
      refine jq_then ?_
      refine jc_true rfl ?_
      refine jc_seq ?_
      -- region 2
      refine jc_region ?_
      refine jl_y rfl (by decide) rfl (y_assign rfl) ?_
      refine jl_y rfl (by decide) rfl (y_assign rfl) ?_
      refine jl_nil ?_
      refine jq_then ?_
      refine jc_ret ?_
      refine jq_then_ret ?_
      refine jq_ret2 rfl rfl rfl ?_
      exact fun w' hw => by
        have hall := hwa.next hw (rowBlk_own (w := w))
        rw [hpo.1, hpo.2, pathN_length]
        exact ⟨p, rfl, hall.fresh⟩
      )
  · first
    | (exfalso; omega)
    | (
      refine jl_y rfl (by decide) rfl (y_move rfl) ?_
      refine jl_y rfl (by decide) rfl (y_move rfl) ?_
      refine jl_y rfl (by decide) rfl (y_lss rfl rfl) ?_
      refine jl_prop (fun h14 => ?_) (fun h14 => ?_)
      · first
        | (exfalso; omega)
        | (
          refine jl_y rfl (by decide) rfl (y_pick_false rfl rfl) ?_
          refine jl_y rfl (by decide) rfl (y_move rfl) ?_
          refine jl_skip rfl (by decide) rfl ?_
          refine jl_skip rfl (by decide) rfl ?_
          refine jl_skip rfl (by decide) rfl ?_
          refine jl_skip rfl (by decide) rfl ?_
          refine jl_y rfl (by decide) rfl (y_pick_true rfl rfl) ?_
          refine jl_nil ?_
          refine jq_then ?_
          refine jc_true rfl ?_
          refine jc_seq ?_
          -- region 2
          refine jc_region ?_
          refine jl_y rfl (by decide) rfl (y_assign rfl) ?_
          refine jl_y rfl (by decide) rfl (y_assign rfl) ?_
          refine jl_nil ?_
          refine jq_then ?_
          refine jc_ret ?_
          refine jq_then_ret ?_
          refine jq_ret2 rfl rfl rfl ?_
          exact fun w' hw => by
            have hall := hwa.next hw (rowBlk_own (w := w))
            rw [hpo.1, hpo.2, pathN_length]
            exact ⟨p, rfl, hall.fresh⟩
          )
      · first
        | (exfalso; omega)
        | (
          refine jl_y rfl (by decide) rfl (y_pick_false rfl rfl) ?_
          refine jl_y rfl (by decide) rfl (y_move rfl) ?_
          refine jl_y rfl (by decide) rfl (y_move rfl) ?_
          refine jl_y rfl (by decide) rfl (y_move rfl) ?_
          refine jl_y rfl (by decide) rfl (y_len_slice rfl) ?_
          refine jl_y rfl (by decide) rfl (y_geq rfl rfl) ?_
          refine jl_prop (fun h20 => ?_) (fun h20 => ?_)
          · first
            | (exfalso; omega)
            | (
              refine jl_y rfl (by decide) rfl (y_pick_false rfl rfl) ?_
              refine jl_nil ?_
              refine jq_then ?_
              refine jc_true rfl ?_
              refine jc_seq ?_
              -- region 2
              refine jc_region ?_
              refine jl_y rfl (by decide) rfl (y_assign rfl) ?_
              refine jl_y rfl (by decide) rfl (y_assign rfl) ?_
              refine jl_nil ?_
              refine jq_then ?_
              refine jc_ret ?_
              refine jq_then_ret ?_
              refine jq_ret2 rfl rfl rfl ?_
              exact fun w' hw => by
                have hall := hwa.next hw (rowBlk_own (w := w))
                rw [hpo.1, hpo.2, pathN_length]
                exact ⟨p, rfl, hall.fresh⟩
              )
          · first
            | (exfalso; omega)
            | (
              refine jl_y rfl (by decide) rfl (y_pick_false rfl rfl) ?_
              refine jl_nil ?_
              refine jq_then ?_
              refine jc_false rfl ?_
              refine jc_skip ?_
              refine jq_then ?_
              refine jc_seq ?_
              -- region 3
              refine jc_region ?_
              refine jl_m rfl (by decide) rfl (m_buildSlice (by decide) Built.nil) (fun b22 => ?_)
              refine jl_y rfl (by decide) rfl (y_move rfl) ?_
              refine jl_y rfl (by decide) rfl (y_move rfl) ?_
              refine jl_y rfl (by decide) rfl (y_assign rfl) ?_
              refine jl_y rfl (by decide) rfl (y_assign rfl) ?_
              refine jl_y rfl (by decide) rfl (y_assign rfl) ?_
              refine jl_nil ?_
              refine jq_then ?_
              refine jc_seq ?_
              refine jc_block ?_
              -- a loop
              refine jc_loop4 (fun (k : Nat) (ar : Option Addr) (cr : Nat) (p : Option Addr × Nat) => [(6, .slice p.1 k p.2), (7, .slice ar (rowN ps k).length cr), (8, .int .i64 ((hf i k : Nat) : Int))]) (fun (k : Nat) (ar : Option Addr) (cr : Nat) (p : Option Addr × Nat) => fun w' => (k ≤ tallL ps ∧ StrsO w' (rowBlk p.1) ar (rowN ps k)) ∧ Hp w [] [.row (p.1) (k) (p.2) 9 1 ((pathN ps i k).map .string)] w') (fun (k : Nat) (ar : Option Addr) (cr : Nat) (p : Option Addr × Nat) => tallL ps - k) 0 ad c (some ⟨b22, 0, none⟩, 0) ?_ ?_ ?_
              · exact ⟨rfl, rfl, lk_int rfl (by rw [hf_zero]), trivial⟩
              · exact fun w2 h => ⟨⟨by omega, hps.keep h, fun b o e hm => by have e3 : b = b22 := (by simpa [rowBlk] using hm); subst e3; subst e; have h1 := Strs.block_lt hps (by omega); have h2 := h.own _ mem0 b rfl; simp at h2; omega⟩, h⟩
              · intro k ar cr p
                refine jc_rebaseF (rowBlk p.1) feet_one (fun wa hF hwa => ?_)
                obtain ⟨hk, hra⟩ := hF
                have hrl := row_pow hpw hk
                have hr1 := Nat.two_pow_pos (tallL ps - k)
                have hrb : (rowN ps k).length ≤ 16 := by rw [rowN_length]; have := Nat.div_le_self ps.length (2 ^ k); omega
                refine jc_seq ?_
                refine jc_seq ?_
                -- region 4
                refine jc_region ?_
                refine jl_y rfl (by decide) rfl (y_move rfl) ?_
                refine jl_y rfl (by decide) rfl (y_len_slice rfl) ?_
                refine jl_y rfl (by decide) rfl (y_gtr rfl rfl) ?_
                refine jl_prop (fun h27 => ?_) (fun h27 => ?_)
                · first
                  | (exfalso; omega)
                  | (
                    have hkt : k < tallL ps := (Nat.lt_or_ge k (tallL ps)).elim id (fun h => by exfalso; have e : k = tallL ps := (by omega); subst e; rw [Nat.sub_self] at hrl; simp at hrl; omega)
                    have hsl : sib (hf i k) < (rowN ps k).length := sib_lt hpw hi hkt
                    have hdl : hf i k < (rowN ps k).length := half_lt hpw hi (Nat.le_of_lt hkt)
                    have hev := row_even hpw hkt
                    refine jl_nil ?_
                    refine jq_then ?_
                    refine jc_true rfl ?_
                    refine jc_skip ?_
                    refine jq_then ?_
                    refine jc_block ?_
                    refine jc_seq ?_
                    refine jc_seq ?_
                    -- region 5
                    refine jc_region ?_
                    refine jl_y rfl (by decide) rfl (y_move rfl) ?_
                    refine jl_y rfl (by decide) rfl (y_rem rfl rfl (by omega) (by omega)) ?_
                    refine jl_y rfl (by decide) rfl (y_eql rfl rfl) ?_
                    refine jl_prop (fun h30 => ?_) (fun h30 => ?_)
                    · first
                      | (exfalso; omega)
                      | (
                        have hsd : sib (hf i k) = hf i k + 1 := by unfold sib; rw [if_pos (mod_nat h30)]
                        rw [hsd] at hsl
                        have hpa : at0 (rowN ps k) (hf i k + 1) = pathAt ps i k := by show _ = at0 (rowN ps k) (sib (hf i k)); rw [hsd]
                        obtain ⟨bb, oo, rfl, hc⟩ := hra.1 (hf i k + 1) _ (at0_some hsl)
                        have hbo := hra.2 bb oo rfl
                        refine jl_nil ?_
                        refine jq_then ?_
                        refine jc_true rfl ?_
                        -- region 6
                        refine jc_region ?_
                        refine jl_y rfl (by decide) rfl (y_move rfl) ?_
                        refine jl_y rfl (by decide) rfl (y_move rfl) ?_
                        refine jl_y rfl (by decide) rfl (y_move rfl) ?_
                        refine jl_y rfl (by decide) rfl (y_add_fits rfl rfl (by simp only [fits]; omega)) ?_
                        refine jl_y rfl (by decide) rfl (y_indexAddr_slice (off := oo + (hf i k + 1)) rfl rfl (by omega) (by omega) (by omega)) ?_
                        refine jl_y rfl (by decide) rfl (y_load_old rfl hc hbo) ?_
                        refine jl_as (congrArg _ hpa) ?_
                        refine jl_m rfl (by decide) rfl (m_buildSlice (by decide) (Built.cell rfl rfl rfl (by repeat constructor) Built.nil)) (fun b37 => ?_)
                        refine jl_m2 rfl (by decide) rfl (m_append rfl rfl (by first | exact del0 | exact del1 | exact del2 | exact del3 | exact del4) (by first | exact del0 | exact del1 | exact del2 | exact del3 | exact del4) rfl (by omega) (by omega)) (fun a38 c38 => ?_)
                        refine jl_y rfl (by decide) rfl (y_assign rfl) ?_
                        refine jl_nil ?_
                        refine jq_then ?_
                        refine jc_seq ?_
                        -- region 8
                        refine jc_region ?_
                        refine jl_y rfl (by decide) rfl (y_move rfl) ?_
                        refine jl_fcall rfl (by decide) rfl (goes_func rfl) (fun w1 hw1 => (above_any _ _ (rowN ps k) w1 (by rw [rowN_length]; have := Nat.div_le_self ps.length (2 ^ k); omega) (hw1.strs hra.1 hra.2) (rowN_size hs16 k))) (fun ⟨an, cn⟩ => ?_)
                        refine jl_y rfl (by decide) rfl (y_assign rfl) ?_
                        refine jl_nil ?_
                        refine jq_then ?_
                        -- region 9
                        refine jc_region ?_
                        refine jl_y rfl (by decide) rfl (y_move rfl) ?_
                        refine jl_y rfl (by decide) rfl (y_quo rfl rfl (by omega) (by omega) (by simp only [fits]; omega)) ?_
                        refine jl_as (congrArg _ (hf_step i k)) ?_
                        refine jl_y rfl (by decide) rfl (y_assign rfl) ?_
                        refine jl_nil ?_
                        refine jq_block ?_
                        refine jq_round4 (i := k) (j := some ⟨bb, oo, none⟩) (l := cr) (m := p) (k + 1) an cn (a38, c38) ?_ ?_ ?_
                        · omega
                        · exact ⟨rfl, rfl, rfl, trivial⟩
                        · exact fun w2 h => ⟨⟨by omega, Strs.of_own (h.get mem0), rows_apart h⟩, (hwa.next h.pop (rowBlk_own (w := w))).cast (by rw [pathN_succ, List.map_append]; rfl)⟩
                        )
                    · first
                      | (exfalso; omega)
                      | (
                        have hsd : sib (hf i k) = hf i k - 1 := by unfold sib; rw [if_neg (mod_nat' h30)]
                        rw [hsd] at hsl
                        have hpa : at0 (rowN ps k) (hf i k - 1) = pathAt ps i k := by show _ = at0 (rowN ps k) (sib (hf i k)); rw [hsd]
                        obtain ⟨bb, oo, rfl, hc⟩ := hra.1 (hf i k - 1) _ (at0_some hsl)
                        have hbo := hra.2 bb oo rfl
                        refine jl_nil ?_
                        refine jq_then ?_
                        refine jc_false rfl ?_
                        -- region 7
                        refine jc_region ?_
                        refine jl_y rfl (by decide) rfl (y_move rfl) ?_
                        refine jl_y rfl (by decide) rfl (y_move rfl) ?_
                        refine jl_y rfl (by decide) rfl (y_move rfl) ?_
                        refine jl_y rfl (by decide) rfl (y_sub_fits rfl rfl (by simp only [fits]; omega)) ?_
                        refine jl_y rfl (by decide) rfl (y_indexAddr_slice (off := oo + (hf i k - 1)) rfl rfl (by omega) (by omega) (by omega)) ?_
                        refine jl_y rfl (by decide) rfl (y_load_old rfl hc hbo) ?_
                        refine jl_as (congrArg _ hpa) ?_
                        refine jl_m rfl (by decide) rfl (m_buildSlice (by decide) (Built.cell rfl rfl rfl (by repeat constructor) Built.nil)) (fun b45 => ?_)
                        refine jl_m2 rfl (by decide) rfl (m_append rfl rfl (by first | exact del0 | exact del1 | exact del2 | exact del3 | exact del4) (by first | exact del0 | exact del1 | exact del2 | exact del3 | exact del4) rfl (by omega) (by omega)) (fun a38 c38 => ?_)
                        refine jl_y rfl (by decide) rfl (y_assign rfl) ?_
                        refine jl_nil ?_
                        refine jq_then ?_
                        refine jc_seq ?_
                        -- region 8
                        refine jc_region ?_
                        refine jl_y rfl (by decide) rfl (y_move rfl) ?_
                        refine jl_fcall rfl (by decide) rfl (goes_func rfl) (fun w1 hw1 => (above_any _ _ (rowN ps k) w1 (by rw [rowN_length]; have := Nat.div_le_self ps.length (2 ^ k); omega) (hw1.strs hra.1 hra.2) (rowN_size hs16 k))) (fun ⟨an, cn⟩ => ?_)
                        refine jl_y rfl (by decide) rfl (y_assign rfl) ?_
                        refine jl_nil ?_
                        refine jq_then ?_
                        -- region 9
                        refine jc_region ?_
                        refine jl_y rfl (by decide) rfl (y_move rfl) ?_
                        refine jl_y rfl (by decide) rfl (y_quo rfl rfl (by omega) (by omega) (by simp only [fits]; omega)) ?_
                        refine jl_as (congrArg _ (hf_step i k)) ?_
                        refine jl_y rfl (by decide) rfl (y_assign rfl) ?_
                        refine jl_nil ?_
                        refine jq_block ?_
                        refine jq_round4 (i := k) (j := some ⟨bb, oo, none⟩) (l := cr) (m := p) (k + 1) an cn (a38, c38) ?_ ?_ ?_
                        · omega
                        · exact ⟨rfl, rfl, rfl, trivial⟩
                        · exact fun w2 h => ⟨⟨by omega, Strs.of_own (h.get mem0), rows_apart h⟩, (hwa.next h.pop (rowBlk_own (w := w))).cast (by rw [pathN_succ, List.map_append]; rfl)⟩
                        )
                    )
                · first
                  | (exfalso; omega)
                  | (
                    have hkt : k = tallL ps := by have h2 := @pow_one_zero (tallL ps - k) (by omega); omega
                    subst hkt
                    refine jl_nil ?_
                    refine jq_then ?_
                    refine jc_false rfl ?_
                    refine jc_exit ?_
                    refine jq_then_exit ?_
                    refine jq_then_exit ?_
                    refine jq_hit ?_
                    refine jq_then ?_
                    refine jc_seq ?_
                    -- region 10
                    refine jc_region ?_
                    refine jl_y rfl (by decide) rfl (y_move rfl) ?_
                    refine jl_y rfl (by decide) rfl (y_assign rfl) ?_
                    refine jl_y rfl (by decide) rfl (y_assign rfl) ?_
                    refine jl_nil ?_
                    refine jq_then ?_
                    refine jc_ret ?_
                    refine jq_ret2 rfl rfl rfl ?_
                    exact fun w' hw => by
                      have hall := hwa.next hw (rowBlk_own (w := w))
                      rw [hpo.1, hpo.2, pathN_length]
                      exact ⟨p, rfl, hall.fresh⟩
                    )
              )
          )
      )

theorem rpath_bad (ad : Option Addr) (c : Nat) (ps : List ByteArray) (w : World) (hl : ps.length ≤ 1000000) (hps : Strs w ad ps) (i : Int) (hbad : ¬ (okL ps ∧ 0 ≤ i ∧ i < ps.length)) :
    Calls Try.prog 13 #[.slice ad ps.length c, .int .i64 i] w fun e w' => e = .returned (.tuple #[.slice none 0 0, .int .i64 1]) ∧ Ch [] w w' := by
  refine calls_of (n := 52) (E := [(0, .slice ad ps.length c), (1, .int .i64 i)]) (W := Hp w [] []) Try.func13 rfl rfl (Nat.le_of_ble_eq_true rfl) rfl (Hp.nil _ _) ?_
  refine jc_seq ?_
  -- region 0
  refine jc_region ?_
  refine jl_y rfl (by decide) rfl (y_assign rfl) ?_
  refine jl_y rfl (by decide) rfl (y_assign rfl) ?_
  refine jl_nil ?_
  refine jq_then ?_
  refine jc_seq ?_
  refine jc_seq ?_
  -- region 1
  refine jc_region ?_
  refine jl_y rfl (by decide) rfl (y_move rfl) ?_
  refine jl_pcall rfl (by decide) rfl (goes_func rfl) (fun w1 hw1 => pcall hw1 (tall_any _ _ _ w1 (by omega) (hps.keep hw1))) ?_
  refine jl_y rfl (by decide) rfl (y_lss rfl rfl) ?_
  refine jl_prop (fun h11 => ?_) (fun h11 => ?_)
  · first
    | (exfalso; omega)
    | (
      refine jl_y rfl (by decide) rfl (y_move rfl) ?_
      refine jl_skip rfl (by decide) rfl ?_
      refine jl_skip rfl (by decide) rfl ?_
      refine jl_y rfl (by decide) rfl (y_pick_true rfl rfl) ?_
      refine jl_y rfl (by decide) rfl (y_move rfl) ?_
      refine jl_skip rfl (by decide) rfl ?_
      refine jl_skip rfl (by decide) rfl ?_
      refine jl_skip rfl (by decide) rfl ?_
      refine jl_skip rfl (by decide) rfl ?_
      refine jl_y rfl (by decide) rfl (y_pick_true rfl rfl) ?_
      refine jl_nil ?_
      refine jq_then ?_
      refine jc_true rfl ?_
      refine jc_seq ?_
      -- region 2
      refine jc_region ?_
      refine jl_y rfl (by decide) rfl (y_assign rfl) ?_
      refine jl_y rfl (by decide) rfl (y_assign rfl) ?_
      refine jl_nil ?_
      refine jq_then ?_
      refine jc_ret ?_
      refine jq_then_ret ?_
      refine jq_ret2 rfl rfl rfl ?_
      exact fun _ hw => ⟨rfl, hw.ch⟩
      )
  · first
    | (exfalso; omega)
    | (
      refine jl_y rfl (by decide) rfl (y_move rfl) ?_
      refine jl_y rfl (by decide) rfl (y_move rfl) ?_
      refine jl_y rfl (by decide) rfl (y_lss rfl rfl) ?_
      refine jl_prop (fun h14 => ?_) (fun h14 => ?_)
      · first
        | (exfalso; omega)
        | (
          refine jl_y rfl (by decide) rfl (y_pick_false rfl rfl) ?_
          refine jl_y rfl (by decide) rfl (y_move rfl) ?_
          refine jl_skip rfl (by decide) rfl ?_
          refine jl_skip rfl (by decide) rfl ?_
          refine jl_skip rfl (by decide) rfl ?_
          refine jl_skip rfl (by decide) rfl ?_
          refine jl_y rfl (by decide) rfl (y_pick_true rfl rfl) ?_
          refine jl_nil ?_
          refine jq_then ?_
          refine jc_true rfl ?_
          refine jc_seq ?_
          -- region 2
          refine jc_region ?_
          refine jl_y rfl (by decide) rfl (y_assign rfl) ?_
          refine jl_y rfl (by decide) rfl (y_assign rfl) ?_
          refine jl_nil ?_
          refine jq_then ?_
          refine jc_ret ?_
          refine jq_then_ret ?_
          refine jq_ret2 rfl rfl rfl ?_
          exact fun _ hw => ⟨rfl, hw.ch⟩
          )
      · first
        | (exfalso; omega)
        | (
          refine jl_y rfl (by decide) rfl (y_pick_false rfl rfl) ?_
          refine jl_y rfl (by decide) rfl (y_move rfl) ?_
          refine jl_y rfl (by decide) rfl (y_move rfl) ?_
          refine jl_y rfl (by decide) rfl (y_move rfl) ?_
          refine jl_y rfl (by decide) rfl (y_len_slice rfl) ?_
          refine jl_y rfl (by decide) rfl (y_geq rfl rfl) ?_
          refine jl_prop (fun h20 => ?_) (fun h20 => ?_)
          · first
            | (exfalso; omega)
            | (
              refine jl_y rfl (by decide) rfl (y_pick_false rfl rfl) ?_
              refine jl_nil ?_
              refine jq_then ?_
              refine jc_true rfl ?_
              refine jc_seq ?_
              -- region 2
              refine jc_region ?_
              refine jl_y rfl (by decide) rfl (y_assign rfl) ?_
              refine jl_y rfl (by decide) rfl (y_assign rfl) ?_
              refine jl_nil ?_
              refine jq_then ?_
              refine jc_ret ?_
              refine jq_then_ret ?_
              refine jq_ret2 rfl rfl rfl ?_
              exact fun _ hw => ⟨rfl, hw.ch⟩
              )
          · exact absurd ⟨Decidable.byContradiction (fun h => by have := tallV_bad h; omega), by omega, by omega⟩ hbad
          )
      )

theorem rpath_any (ad : Option Addr) (c : Nat) (ps : List ByteArray) (w : World) (hl : ps.length ≤ 1000000) (hps : Strs w ad ps) (i : Int) : Calls Try.prog 13 #[.slice ad ps.length c, .int .i64 i] w fun e w' => ∃ p : Option Addr × Nat, e = .returned (.tuple #[.slice p.1 (pathV ps i).length p.2, .int .i64 (pathE ps i)]) ∧ Fresh w w' (.row (p.1) ((pathV ps i).length) (p.2) 9 1 ((pathV ps i).map .string)) := by
  by_cases h : okL ps ∧ 0 ≤ i ∧ i < ps.length
  · obtain ⟨j, rfl⟩ : ∃ j : Nat, i = (j : Int) := ⟨i.toNat, by omega⟩
    exact rpath_ok ad c ps w hl hps j h.1 (by omega)
  · refine (rpath_bad ad c ps w hl hps i h).mono fun e w' hh => ?_
    rw [(path_bad h).1, (path_bad h).2]
    exact ⟨(none, 0), hh.1, (Hp.nilrow 9 1 (Hp.of_ch hh.2)).fresh⟩
end Go.Proofs.Ytbemnhllcpopbaa