/- The walk of CoinWhole. Written by program (walk.py) out of a table of contracts and invariants. -/
import Derived.Test.YtamlleachfngeaaCj
import Derived.Test.YtamlleachfngeaaJs
namespace Go.Proofs.Ytamlleachfngeaa
open Go.RowKit
set_option maxRecDepth 100000
set_option maxHeartbeats 4000000
set_option linter.unusedVariables false
set_option linter.unusedSimpArgs false
theorem ctOu_fit {o : Oup} (h : o.Fit) : (ctOu o).Fit := ⟨h.kind, h.amount, h.expiry, h.unit, h.tokens⟩
theorem ou_hold {L : List Oup} {k : Nat} (h : k < L.length) : ∀ j u, (Oup.c L[k])[j]? = some u → (L.flatMap Oup.c)[k * 9 + j]? = some u := fun j u hj => by
  have hjl : j < 9 := (List.getElem?_eq_some_iff.1 hj).1
  rw [flat_get (c := Oup.c) (sz := 9) (fun _ => rfl) L k j h hjl]
  exact hj
theorem rev_take {L : List Oup} {j : Nat} (h : j < L.length) : (L.reverse.take (j + 1)).flatMap Oup.c = (L.reverse.take j).flatMap Oup.c ++ Oup.c (L[L.length - 1 - j]'(by omega)) := by
  rw [List.take_succ_eq_append_getElem (by rw [List.length_reverse]; exact h), List.flatMap_append, List.getElem_reverse]
  simp
theorem sum_perm {l m : List Int} (h : l.Perm m) : l.sum = m.sum := by
  induction h with
  | nil => rfl
  | cons x _ ih => simp [ih]
  | swap x y l => simp; omega
  | trans _ _ ih1 ih2 => exact ih1.trans ih2
theorem sum_rev (L : List Oup) : (L.reverse.map Oup.amount).sum = (L.map Oup.amount).sum := sum_perm ((List.reverse_perm L).map _)
theorem sumA_rev (L : List Oup) : sumA (L.reverse.map Oup.amount) = sumA (L.map Oup.amount) ∧ sumE (L.reverse.map Oup.amount) = sumE (L.map Oup.amount) := by
  unfold sumA sumE; rw [sum_rev]; exact ⟨rfl, rfl⟩
theorem sum_pos {L : List Oup} (h : ∀ o ∈ L, o.Fit) : 0 ≤ (L.map Oup.amount).sum := sum_nonneg fun n hn => by
  obtain ⟨o, ho, rfl⟩ := List.mem_map.1 hn
  exact (h o ho).amount
theorem wh_parts {L : List Oup} (hf : ∀ o ∈ L, o.Fit) (q : Nat) (h : ¬ sumE (L.map Oup.amount) ≠ 0) : sumE ((L.take q).map Oup.amount) = 0 ∧ sumE ((L.drop q).map Oup.amount) = 0 ∧ (sumA ((L.take q).map Oup.amount) + sumA ((L.drop q).map Oup.amount)) % 18446744073709551616 = sumA (L.map Oup.amount) := by
  have h1 := sum_pos (L := L.take q) fun o ho => hf o (List.mem_of_mem_take ho)
  have h2 := sum_pos (L := L.drop q) fun o ho => hf o (List.mem_of_mem_drop ho)
  have h3 : (L.map Oup.amount).sum = ((L.take q).map Oup.amount).sum + ((L.drop q).map Oup.amount).sum := by
    rw [← List.sum_append, ← List.map_append, List.take_append_drop]
  have h4 : ¬ 18446744073709551616 ≤ (L.map Oup.amount).sum := by
    intro h5
    apply h
    unfold sumE
    rw [if_pos h5]
    decide
  unfold sumE sumA
  rw [if_neg h4, if_neg (by omega), if_neg (by omega), if_neg (by omega), if_neg (by omega)]
  omega

theorem coinWhole_any (ad : Option Addr) (c : Nat) (l : List Oup) (a : Int) (w : World) (hf : ∀ o ∈ l, o.Fit) (hE : ElAt w ad 9 (l.map Oup.c)) (ha : fits .u8 a) :
    Calls Try.prog 7 #[.slice ad l.length c, .int .u8 a] w fun e w' => e = .returned (.bool true) ∧ Ch [] w w' := by
  simp only [fits] at ha
  refine calls_of (n := 125) (E := [(0, .slice ad l.length c), (1, .int .u8 a)]) (W := Hp w [] []) Try.func7 rfl rfl (Nat.le_of_ble_eq_true rfl) rfl (Hp.nil _ _) ?_
  refine jc_seq ?_
  -- region 0
  refine jc_region ?_
  refine jl_y rfl (by decide) rfl (y_assign rfl) ?_
  refine jl_nil ?_
  refine jq_then ?_
  refine jc_seq ?_
  -- region 1
  refine jc_region ?_
  refine jl_m rfl (by decide) rfl (m_buildSlice (size := 9) (by decide) Built.nil) (fun b18 => ?_)
  refine jl_m rfl (by decide) rfl (m_buildSlice (size := 9) (by decide) Built.nil) (fun b19 => ?_)
  refine jl_y rfl (by decide) rfl (y_assign rfl) ?_
  refine jl_y rfl (by decide) rfl (y_assign rfl) ?_
  refine jl_nil ?_
  refine jq_then ?_
  refine jc_seq ?_
  refine jc_seq ?_
  -- region 2
  refine jc_region ?_
  refine jl_y rfl (by decide) rfl (y_assign rfl) ?_
  refine jl_nil ?_
  refine jq_then ?_
  refine jc_block ?_
  -- a loop
  refine jc_loop3 (fun (i : Nat) (au : Option Addr) (cu : Nat) => [(0, .slice ad l.length c), (1, .int .u8 a), (5, .slice au i cu), (6, .slice (some ⟨b19, 0, none⟩) 0 0), (7, .int .i64 (i : Nat))]) (fun (i : Nat) (au : Option Addr) (cu : Nat) => fun w' => (i ≤ l.length ∧ i ≤ 6) ∧ Hp w [] [.row au (i) cu 58 9 (((l.take i).map ctOu).flatMap Oup.c), .row (some ⟨b19, 0, none⟩) 0 0 58 9 []] w') (fun (i : Nat) (au : Option Addr) (cu : Nat) => 6 - i) 0 (some ⟨b18, 0, none⟩) 0 ?_ ?_ ?_
  · exact ⟨rfl, rfl, rfl, rfl, rfl, trivial⟩
  · exact fun _ h => ⟨⟨by omega, by omega⟩, h.perm (List.Perm.swap _ _ _)⟩
  · intro i au cu
    refine jc_and (fun hi => ?_)
    refine jc_seq ?_
    refine jc_seq ?_
    -- region 3
    refine jc_region ?_
    refine jl_y rfl (by decide) rfl (y_move rfl) ?_
    refine jl_y rfl (by decide) rfl (y_move rfl) ?_
    refine jl_y rfl (by decide) rfl (y_len_slice rfl) ?_
    refine jl_y rfl (by decide) rfl (y_lss rfl rfl) ?_
    refine jl_prop (fun h23 => ?_) (fun h23 => ?_)
    · first
      | (exfalso; omega)
      | (
        refine jl_y rfl (by decide) rfl (y_move rfl) ?_
        refine jl_y rfl (by decide) rfl (y_move rfl) ?_
        refine jl_y rfl (by decide) rfl (y_lss rfl rfl) ?_
        refine jl_prop (fun h26 => ?_) (fun h26 => ?_)
        · first
          | (exfalso; omega)
          | (
            have hlt : i < l.length := by omega
            have hnx := take_flat (f := ctOu) (c := Oup.c) hlt
            obtain ⟨bb, oo, ea, hold⟩ := hE.get hlt
            subst ea
            generalize hxe : l[i]'hlt = x at *
            refine jl_y rfl (by decide) rfl (y_pick_true rfl rfl) ?_
            refine jl_nil ?_
            refine jq_then ?_
            refine jc_true rfl ?_
            refine jc_skip ?_
            refine jq_then ?_
            refine jc_seq ?_
            refine jc_block ?_
            -- region 5
            refine jc_region ?_
            refine jl_y rfl (by decide) rfl (y_move rfl) ?_
            refine jl_y rfl (by decide) rfl (y_move rfl) ?_
            refine jl_y rfl (by decide) rfl (y_move rfl) ?_
            refine jl_y rfl (by decide) rfl (y_indexAddr_slice (off := oo + i * 9) rfl rfl (by omega) (by omega) (by omega)) ?_
            refine jl_y rfl (by decide) rfl (y_loadAgg_old rfl rfl hold (by simp)) ?_
            refine jl_pcall rfl (by decide) rfl (goes_func rfl) (fun w1 hw1 => pcall hw1 (cutou_any x w1)) ?_
            refine jl_m rfl (by decide) rfl (m_buildSlice (size := 9) (by decide) (Built.agg rfl rfl rfl (by repeat constructor) Built.nil)) (fun b36 => ?_)
            refine jl_m2 rfl (by decide) rfl (m_append rfl rfl (by first | exact del0 | exact del1 | exact del2 | exact del3 | exact del4) (by first | exact del0 | exact del1 | exact del2 | exact del3 | exact del4) rfl (by omega) (by omega)) (fun a37 c37 => ?_)
            refine jl_y rfl (by decide) rfl (y_assign rfl) ?_
            refine jl_nil ?_
            refine jq_block ?_
            refine jq_then ?_
            -- region 4
            refine jc_region ?_
            refine jl_y rfl (by decide) rfl (y_move rfl) ?_
            refine jl_y rfl (by decide) rfl (y_add_fits rfl rfl (by simp only [fits]; omega)) ?_
            refine jl_y rfl (by decide) rfl (y_assign rfl) ?_
            refine jl_nil ?_
            refine jq_round3 (i := i) (j := au) (l := cu) (i + 1) a37 c37 ?_ ?_ ?_
            · omega
            · exact ⟨rfl, rfl, rfl, rfl, lk_int rfl (by omega), trivial⟩
            · exact fun _ h => ⟨⟨by omega, by omega⟩, h.cast (by rw [hnx]; rfl)⟩
            )
        · first
          | (exfalso; omega)
          | (
            refine jl_y rfl (by decide) rfl (y_pick_true rfl rfl) ?_
            refine jl_nil ?_
            refine jq_then ?_
            refine jc_false rfl ?_
            refine jc_exit ?_
            refine jq_then_exit ?_
            refine jq_then_exit ?_
            refine jq_hit ?_
            refine jq_then ?_
            refine jc_seq ?_
            refine jc_seq ?_
            -- region 6
            obtain ⟨L, hL⟩ : ∃ L, (l.take i).map ctOu = L := ⟨_, rfl⟩
            have hLl : L.length = i := by rw [← hL, List.length_map, List.length_take]; omega
            subst hLl
            have hL6 : L.length ≤ 6 := by omega
            have hLf : ∀ o ∈ L, o.Fit := by rw [← hL]; intro o ho; obtain ⟨z, hz, rfl⟩ := List.mem_map.1 ho; exact ctOu_fit (hf z (List.mem_of_mem_take hz))
            refine jc_world (fun _ h => h.cast (H' := [.row au (L.length) cu 58 9 ((L).flatMap Oup.c), .row (some ⟨b19, 0, none⟩) 0 0 58 9 []]) (by rw [hL])) ?_
            refine jc_pure (p := L.length ≤ cu) (fun w h => row_cap (h.get (A := .row au (L.length) cu 58 9 ((L).flatMap Oup.c)) mem0)) (fun hcap => ?_)
            obtain ⟨q, hq⟩ : ∃ q : Nat, a % ((L.length : Int) + 1) = q := ⟨_, (Int.toNat_of_nonneg (Int.emod_nonneg _ (by omega))).symm⟩
            have hqL : q ≤ L.length := by have := Int.emod_lt_of_pos a (show 0 < (L.length : Int) + 1 by omega); omega
            clear hL
            refine jc_region ?_
            refine jl_y rfl (by decide) rfl (y_move rfl) ?_
            refine jl_y rfl (by decide) rfl (y_len_slice rfl) ?_
            refine jl_y rfl (by decide) rfl (y_sub_fits rfl rfl (by simp only [fits]; omega)) ?_
            refine jl_y rfl (by decide) rfl (y_assign rfl) ?_
            refine jl_nil ?_
            refine jq_then ?_
            refine jc_block ?_
            -- a loop
            refine jc_loop3 (fun (j : Nat) (a2 : Option Addr) (c2 : Nat) => [(1, .int .u8 a), (5, .slice au L.length cu), (6, .slice a2 j c2), (8, .int .i64 ((L.length : Int) - 1 - (j : Nat)))]) (fun (j : Nat) (a2 : Option Addr) (c2 : Nat) => fun w' => j ≤ L.length ∧ Hp w [] [.row a2 (j) c2 58 9 ((L.reverse.take j).flatMap Oup.c), .row au (L.length) cu 58 9 ((L).flatMap Oup.c)] w') (fun (j : Nat) (a2 : Option Addr) (c2 : Nat) => L.length - j) 0 (some ⟨b19, 0, none⟩) 0 ?_ ?_ ?_
            · exact ⟨rfl, rfl, rfl, lk_int rfl (by omega), trivial⟩
            · exact fun _ h => ⟨by omega, h.perm (List.Perm.swap _ _ _)⟩
            · intro j a2 c2
              refine jc_and (fun hj => ?_)
              refine jc_seq ?_
              refine jc_seq ?_
              -- region 7
              refine jc_region ?_
              refine jl_y rfl (by decide) rfl (y_move rfl) ?_
              refine jl_y rfl (by decide) rfl (y_geq rfl rfl) ?_
              refine jl_prop (fun h42 => ?_) (fun h42 => ?_)
              · first
                | (exfalso; omega)
                | (
                  refine jl_nil ?_
                  refine jq_then ?_
                  refine jc_true rfl ?_
                  refine jc_skip ?_
                  refine jq_then ?_
                  refine jc_seq ?_
                  refine jc_block ?_
                  refine jc_seq ?_
                  -- region 9
                  have hjl : j < L.length := by omega
                  refine jc_pure (p := ∃ b, au = some ⟨b, 0, none⟩) (fun w h => row_some (h.get (A := .row au (L.length) cu 58 9 ((L).flatMap Oup.c)) mem1) (by omega)) (fun hb => ?_)
                  obtain ⟨bb, rfl⟩ := hb
                  have hlt : L.length - 1 - j < L.length := by omega
                  have hold := ou_hold hlt
                  have hnx := rev_take hjl
                  have hxm := List.getElem_mem hlt
                  generalize hxe : L[L.length - 1 - j]'hlt = x at *
                  refine jc_region ?_
                  refine jl_y rfl (by decide) rfl (y_move rfl) ?_
                  refine jl_y rfl (by decide) rfl (y_move rfl) ?_
                  refine jl_y rfl (by decide) rfl (y_move rfl) ?_
                  refine jl_y rfl (by decide) rfl (y_indexAddr_slice (off := (L.length - 1 - j) * 9) rfl rfl (by omega) (by omega) (by omega)) ?_
                  refine jl_y rfl (by decide) rfl (y_loadAgg_row rfl (by first | exact mem0 | exact mem1 | exact mem2 | exact mem3 | exact mem4 | exact mem5) rfl hold) ?_
                  refine jl_m rfl (by decide) rfl (m_buildSlice (size := 9) (by decide) (Built.agg rfl rfl rfl (by repeat constructor) Built.nil)) (fun b50 => ?_)
                  refine jl_m2 rfl (by decide) rfl (m_append rfl rfl (by first | exact del0 | exact del1 | exact del2 | exact del3 | exact del4) (by first | exact del0 | exact del1 | exact del2 | exact del3 | exact del4) rfl (by omega) (by omega)) (fun a51 c51 => ?_)
                  refine jl_y rfl (by decide) rfl (y_assign rfl) ?_
                  refine jl_nil ?_
                  refine jq_then ?_
                  refine jc_seq ?_
                  -- region 10
                  refine jc_region ?_
                  refine jl_y rfl (by decide) rfl (y_move rfl) ?_
                  refine jl_y rfl (by decide) rfl (y_move rfl) ?_
                  refine jl_y rfl (by decide) rfl (y_indexAddr_slice (off := (L.length - 1 - j) * 9) rfl rfl (by omega) (by omega) (by omega)) ?_
                  refine jl_y rfl (by decide) rfl (y_loadAgg_row rfl (by first | exact mem0 | exact mem1 | exact mem2 | exact mem3 | exact mem4 | exact mem5) rfl hold) ?_
                  refine jl_pcall rfl (by decide) rfl (goes_func rfl) (fun w1 hw1 => pcall hw1 (cfits_any x w1)) ?_
                  refine jl_bool (fun h56 => ?_) (fun h56 => ?_)
                  · skip
                    refine jl_y rfl (by decide) rfl (y_move rfl) ?_
                    refine jl_y rfl (by decide) rfl (y_move rfl) ?_
                    refine jl_y rfl (by decide) rfl (y_move rfl) ?_
                    refine jl_y rfl (by decide) rfl (y_indexAddr_slice (off := (L.length - 1 - j) * 9) rfl rfl (by omega) (by omega) (by omega)) ?_
                    refine jl_y rfl (by decide) rfl (y_fieldAddr rfl) ?_
                    refine jl_y rfl (by decide) rfl (y_load_row rfl (by first | exact mem0 | exact mem1 | exact mem2 | exact mem3 | exact mem4 | exact mem5) (hold 1 _ rfl)) ?_
                    refine jl_y rfl (by decide) rfl (y_eql rfl rfl) ?_
                    refine jl_prop (fun h63 => ?_) (fun h63 => ?_)
                    · exfalso; have := (ouFits_iff.1 (by assumption)).1; omega
                    · skip
                      refine jl_y rfl (by decide) rfl (y_pick_true rfl rfl) ?_
                      refine jl_nil ?_
                      refine jq_then ?_
                      refine jc_false rfl ?_
                      refine jc_skip ?_
                      refine jq_block ?_
                      refine jq_then ?_
                      -- region 8
                      refine jc_region ?_
                      refine jl_y rfl (by decide) rfl (y_move rfl) ?_
                      refine jl_y rfl (by decide) rfl (y_sub_fits rfl rfl (by simp only [fits]; omega)) ?_
                      refine jl_y rfl (by decide) rfl (y_assign rfl) ?_
                      refine jl_nil ?_
                      refine jq_round3 (i := j) (j := a2) (l := c2) (j + 1) a51 c51 ?_ ?_ ?_
                      · omega
                      · exact ⟨rfl, rfl, rfl, lk_int rfl (by omega), trivial⟩
                      · exact fun _ h => ⟨by omega, h.cast (by rw [hnx]; rfl)⟩
                  · skip
                    refine jl_y rfl (by decide) rfl (y_move rfl) ?_
                    refine jl_skip rfl (by decide) rfl ?_
                    refine jl_skip rfl (by decide) rfl ?_
                    refine jl_skip rfl (by decide) rfl ?_
                    refine jl_skip rfl (by decide) rfl ?_
                    refine jl_skip rfl (by decide) rfl ?_
                    refine jl_skip rfl (by decide) rfl ?_
                    refine jl_y rfl (by decide) rfl (y_pick_false rfl rfl) ?_
                    refine jl_nil ?_
                    refine jq_then ?_
                    refine jc_false rfl ?_
                    refine jc_skip ?_
                    refine jq_block ?_
                    refine jq_then ?_
                    -- region 8
                    refine jc_region ?_
                    refine jl_y rfl (by decide) rfl (y_move rfl) ?_
                    refine jl_y rfl (by decide) rfl (y_sub_fits rfl rfl (by simp only [fits]; omega)) ?_
                    refine jl_y rfl (by decide) rfl (y_assign rfl) ?_
                    refine jl_nil ?_
                    refine jq_round3 (i := j) (j := a2) (l := c2) (j + 1) a51 c51 ?_ ?_ ?_
                    · omega
                    · exact ⟨rfl, rfl, rfl, lk_int rfl (by omega), trivial⟩
                    · exact fun _ h => ⟨by omega, h.cast (by rw [hnx]; rfl)⟩
                  )
              · first
                | (exfalso; omega)
                | (
                  refine jl_nil ?_
                  refine jq_then ?_
                  refine jc_false rfl ?_
                  refine jc_exit ?_
                  refine jq_then_exit ?_
                  refine jq_then_exit ?_
                  refine jq_hit ?_
                  refine jq_then ?_
                  refine jc_seq ?_
                  -- region 12
                  have hj : j = L.length := by omega
                  subst hj
                  refine jc_world (fun _ h => h.cast (H' := [.row a2 (L.length) c2 58 9 ((L.reverse).flatMap Oup.c), .row au (L.length) cu 58 9 ((L).flatMap Oup.c)]) (by rw [List.take_of_length_le (by rw [List.length_reverse]; exact Nat.le_refl _)])) ?_
                  refine jc_region ?_
                  refine jl_y rfl (by decide) rfl (y_move rfl) ?_
                  first | refine jl_y rfl (by decide) rfl (y_conv_fits rfl (by simp only [fits]; omega)) ?_
                  refine jl_y rfl (by decide) rfl (y_move rfl) ?_
                  refine jl_y rfl (by decide) rfl (y_len_slice rfl) ?_
                  refine jl_y rfl (by decide) rfl (y_add_fits rfl rfl (by simp only [fits]; omega)) ?_
                  refine jl_y rfl (by decide) rfl (y_rem rfl rfl (by omega) (by omega)) ?_
                  refine jl_as (u := .int .i64 ((q : Nat) : Int)) (congrArg (Value.int .i64) hq) ?_
                  refine jl_y rfl (by decide) rfl (y_assign rfl) ?_
                  refine jl_nil ?_
                  refine jq_then ?_
                  refine jc_seq ?_
                  -- region 13
                  refine jc_region ?_
                  refine jl_y rfl (by decide) rfl (y_move rfl) ?_
                  refine jl_pcall rfl (by decide) rfl (goes_func rfl) (fun w1 hw1 => pcall hw1 (whole_any au cu L w1 hLf (by omega) (ElAt.of_row (c := Oup.c) (fun _ => rfl) rfl (hw1.get (A := .row au (L.length) cu 58 9 ((L).flatMap Oup.c)) mem1)))) ?_
                  refine jl_y rfl (by decide) rfl (y_move rfl) ?_
                  refine jl_y rfl (by decide) rfl (y_extract rfl rfl) ?_
                  refine jl_y rfl (by decide) rfl (y_extract rfl rfl) ?_
                  refine jl_y rfl (by decide) rfl (y_assign rfl) ?_
                  refine jl_y rfl (by decide) rfl (y_assign rfl) ?_
                  refine jl_nil ?_
                  refine jq_then ?_
                  refine jc_seq ?_
                  -- region 14
                  refine jc_region ?_
                  refine jl_y rfl (by decide) rfl (y_move rfl) ?_
                  refine jl_as (u := .slice a2 L.reverse.length c2) (by rw [List.length_reverse]) ?_
                  refine jl_pcall rfl (by decide) rfl (goes_func rfl) (fun w1 hw1 => pcall hw1 (whole_any a2 c2 L.reverse w1 (fun o ho => hLf o (List.mem_reverse.1 ho)) (by rw [List.length_reverse]; omega) (ElAt.of_row (c := Oup.c) (fun _ => rfl) (List.length_reverse).symm (hw1.get (A := .row a2 (L.length) c2 58 9 ((L.reverse).flatMap Oup.c)) mem0)))) ?_
                  refine jl_as (u := .tuple #[.int .u64 (sumA (L.map Oup.amount)), .int .i64 (sumE (L.map Oup.amount))]) (by rw [(sumA_rev L).1, (sumA_rev L).2]) ?_
                  refine jl_y rfl (by decide) rfl (y_move rfl) ?_
                  refine jl_y rfl (by decide) rfl (y_extract rfl rfl) ?_
                  refine jl_y rfl (by decide) rfl (y_extract rfl rfl) ?_
                  refine jl_y rfl (by decide) rfl (y_assign rfl) ?_
                  refine jl_y rfl (by decide) rfl (y_assign rfl) ?_
                  refine jl_nil ?_
                  refine jq_then ?_
                  refine jc_seq ?_
                  -- region 15
                  refine jc_region ?_
                  refine jl_y rfl (by decide) rfl (y_move rfl) ?_
                  refine jl_y rfl (by decide) rfl (y_move rfl) ?_
                  refine jl_y rfl (by decide) rfl (y_sl_hi rfl rfl (by omega) (by omega)) ?_
                  refine jl_as (u := .slice au (L.take q).length cu) (by rw [Int.toNat_natCast, List.length_take, Nat.min_eq_left hqL]) ?_
                  refine jl_pcall rfl (by decide) rfl (goes_func rfl) (fun w1 hw1 => pcall hw1 (whole_any au cu (L.take q) w1 (fun o ho => hLf o (List.mem_of_mem_take ho)) (by rw [List.length_take]; omega) (by rw [List.map_take]; exact (ElAt.of_row (c := Oup.c) (fun _ => rfl) rfl (hw1.get (A := .row au (L.length) cu 58 9 ((L).flatMap Oup.c)) mem1)).take q))) ?_
                  refine jl_y rfl (by decide) rfl (y_move rfl) ?_
                  refine jl_y rfl (by decide) rfl (y_extract rfl rfl) ?_
                  refine jl_y rfl (by decide) rfl (y_extract rfl rfl) ?_
                  refine jl_y rfl (by decide) rfl (y_assign rfl) ?_
                  refine jl_y rfl (by decide) rfl (y_assign rfl) ?_
                  refine jl_nil ?_
                  refine jq_then ?_
                  refine jc_seq ?_
                  -- region 16
                  refine jc_region ?_
                  refine jl_y rfl (by decide) rfl (y_move rfl) ?_
                  refine jl_y rfl (by decide) rfl (y_move rfl) ?_
                  refine jl_y rfl (by decide) rfl (y_sl_lo rfl rfl (by omega) (by omega)) ?_
                  refine jl_as (u := .slice (subAd au cu q 9) (L.drop q).length (cu - q)) (by rw [Int.toNat_natCast, List.length_drop]) ?_
                  refine jl_pcall rfl (by decide) rfl (goes_func rfl) (fun w1 hw1 => pcall hw1 (whole_any (subAd au cu q 9) (cu - q) (L.drop q) w1 (fun o ho => hLf o (List.mem_of_mem_drop ho)) (by rw [List.length_drop]; omega) (by rw [List.map_drop]; exact (ElAt.of_row (c := Oup.c) (fun _ => rfl) rfl (hw1.get (A := .row au (L.length) cu 58 9 ((L).flatMap Oup.c)) mem1)).drop q (by rw [List.length_map]; exact hcap)))) ?_
                  refine jl_y rfl (by decide) rfl (y_move rfl) ?_
                  refine jl_y rfl (by decide) rfl (y_extract rfl rfl) ?_
                  refine jl_y rfl (by decide) rfl (y_extract rfl rfl) ?_
                  refine jl_y rfl (by decide) rfl (y_assign rfl) ?_
                  refine jl_y rfl (by decide) rfl (y_assign rfl) ?_
                  refine jl_nil ?_
                  refine jq_then ?_
                  refine jc_seq ?_
                  -- region 17
                  refine jc_region ?_
                  refine jl_y rfl (by decide) rfl (y_move rfl) ?_
                  refine jl_y rfl (by decide) rfl (y_move rfl) ?_
                  refine jl_y rfl (by decide) rfl (y_eql rfl rfl) ?_
                  refine jl_as (u := .bool true) (congrArg Value.bool (decide_eq_true rfl)) ?_
                  refine jl_y rfl (by decide) rfl (y_move rfl) ?_
                  refine jl_y rfl (by decide) rfl (y_move rfl) ?_
                  refine jl_y rfl (by decide) rfl (y_move rfl) ?_
                  refine jl_y rfl (by decide) rfl (y_eql rfl rfl) ?_
                  refine jl_as (u := .bool true) (congrArg Value.bool (decide_eq_true rfl)) ?_
                  refine jl_y rfl (by decide) rfl (y_pick_true rfl rfl) ?_
                  refine jl_y rfl (by decide) rfl (y_move rfl) ?_
                  refine jl_y rfl (by decide) rfl (y_move rfl) ?_
                  refine jl_y rfl (by decide) rfl (y_neq rfl rfl) ?_
                  refine jl_prop (fun h105 => ?_) (fun h105 => ?_)
                  · first
                    | (exfalso; omega)
                    | (
                      refine jl_y rfl (by decide) rfl (y_move rfl) ?_
                      refine jl_skip rfl (by decide) rfl ?_
                      refine jl_skip rfl (by decide) rfl ?_
                      refine jl_skip rfl (by decide) rfl ?_
                      refine jl_skip rfl (by decide) rfl ?_
                      refine jl_skip rfl (by decide) rfl ?_
                      refine jl_skip rfl (by decide) rfl ?_
                      refine jl_skip rfl (by decide) rfl ?_
                      refine jl_skip rfl (by decide) rfl ?_
                      refine jl_skip rfl (by decide) rfl ?_
                      refine jl_skip rfl (by decide) rfl ?_
                      refine jl_skip rfl (by decide) rfl ?_
                      refine jl_skip rfl (by decide) rfl ?_
                      refine jl_skip rfl (by decide) rfl ?_
                      refine jl_y rfl (by decide) rfl (y_pick_true rfl rfl) ?_
                      refine jl_y rfl (by decide) rfl (y_pick_true rfl rfl) ?_
                      refine jl_y rfl (by decide) rfl (y_move rfl) ?_
                      refine jl_pcall rfl (by decide) rfl (goes_func rfl) (fun w1 hw1 => pcall hw1 (fixed9_any w1)) ?_
                      refine jl_y rfl (by decide) rfl (y_pick_true rfl rfl) ?_
                      refine jl_y rfl (by decide) rfl (y_assign rfl) ?_
                      refine jl_nil ?_
                      refine jq_then ?_
                      refine jc_ret ?_
                      refine jq_ret1 rfl rfl ?_
                      exact fun _ hw => ⟨rfl, hw.ch⟩
                      )
                  · first
                    | (exfalso; omega)
                    | (
                      refine jl_y rfl (by decide) rfl (y_move rfl) ?_
                      refine jl_y rfl (by decide) rfl (y_move rfl) ?_
                      refine jl_y rfl (by decide) rfl (y_eql rfl rfl) ?_
                      refine jl_as (u := .bool true) (congrArg Value.bool (decide_eq_true (wh_parts hLf q h105).1)) ?_
                      refine jl_y rfl (by decide) rfl (y_move rfl) ?_
                      refine jl_y rfl (by decide) rfl (y_move rfl) ?_
                      refine jl_y rfl (by decide) rfl (y_eql rfl rfl) ?_
                      refine jl_as (u := .bool true) (congrArg Value.bool (decide_eq_true (wh_parts hLf q h105).2.1)) ?_
                      refine jl_y rfl (by decide) rfl (y_pick_true rfl rfl) ?_
                      refine jl_y rfl (by decide) rfl (y_move rfl) ?_
                      refine jl_y rfl (by decide) rfl (y_move rfl) ?_
                      refine jl_y rfl (by decide) rfl (y_move rfl) ?_
                      refine jl_y rfl (by decide) rfl (y_add_u64 rfl rfl) ?_
                      refine jl_y rfl (by decide) rfl (y_move rfl) ?_
                      refine jl_y rfl (by decide) rfl (y_eql rfl rfl) ?_
                      refine jl_as (u := .bool true) (congrArg Value.bool (decide_eq_true (wh_parts hLf q h105).2.2)) ?_
                      refine jl_y rfl (by decide) rfl (y_pick_true rfl rfl) ?_
                      refine jl_y rfl (by decide) rfl (y_pick_false rfl rfl) ?_
                      refine jl_y rfl (by decide) rfl (y_pick_true rfl rfl) ?_
                      refine jl_y rfl (by decide) rfl (y_move rfl) ?_
                      refine jl_pcall rfl (by decide) rfl (goes_func rfl) (fun w1 hw1 => pcall hw1 (fixed9_any w1)) ?_
                      refine jl_y rfl (by decide) rfl (y_pick_true rfl rfl) ?_
                      refine jl_y rfl (by decide) rfl (y_assign rfl) ?_
                      refine jl_nil ?_
                      refine jq_then ?_
                      refine jc_ret ?_
                      refine jq_ret1 rfl rfl ?_
                      exact fun _ hw => ⟨rfl, hw.ch⟩
                      )
                  )
            )
        )
    · first
      | (exfalso; omega)
      | (
        refine jl_y rfl (by decide) rfl (y_move rfl) ?_
        refine jl_skip rfl (by decide) rfl ?_
        refine jl_skip rfl (by decide) rfl ?_
        refine jl_y rfl (by decide) rfl (y_pick_false rfl rfl) ?_
        refine jl_nil ?_
        refine jq_then ?_
        refine jc_false rfl ?_
        refine jc_exit ?_
        refine jq_then_exit ?_
        refine jq_then_exit ?_
        refine jq_hit ?_
        refine jq_then ?_
        refine jc_seq ?_
        refine jc_seq ?_
        -- region 6
        obtain ⟨L, hL⟩ : ∃ L, (l.take i).map ctOu = L := ⟨_, rfl⟩
        have hLl : L.length = i := by rw [← hL, List.length_map, List.length_take]; omega
        subst hLl
        have hL6 : L.length ≤ 6 := by omega
        have hLf : ∀ o ∈ L, o.Fit := by rw [← hL]; intro o ho; obtain ⟨z, hz, rfl⟩ := List.mem_map.1 ho; exact ctOu_fit (hf z (List.mem_of_mem_take hz))
        refine jc_world (fun _ h => h.cast (H' := [.row au (L.length) cu 58 9 ((L).flatMap Oup.c), .row (some ⟨b19, 0, none⟩) 0 0 58 9 []]) (by rw [hL])) ?_
        refine jc_pure (p := L.length ≤ cu) (fun w h => row_cap (h.get (A := .row au (L.length) cu 58 9 ((L).flatMap Oup.c)) mem0)) (fun hcap => ?_)
        obtain ⟨q, hq⟩ : ∃ q : Nat, a % ((L.length : Int) + 1) = q := ⟨_, (Int.toNat_of_nonneg (Int.emod_nonneg _ (by omega))).symm⟩
        have hqL : q ≤ L.length := by have := Int.emod_lt_of_pos a (show 0 < (L.length : Int) + 1 by omega); omega
        clear hL
        refine jc_region ?_
        refine jl_y rfl (by decide) rfl (y_move rfl) ?_
        refine jl_y rfl (by decide) rfl (y_len_slice rfl) ?_
        refine jl_y rfl (by decide) rfl (y_sub_fits rfl rfl (by simp only [fits]; omega)) ?_
        refine jl_y rfl (by decide) rfl (y_assign rfl) ?_
        refine jl_nil ?_
        refine jq_then ?_
        refine jc_block ?_
        -- a loop
        refine jc_loop3 (fun (j : Nat) (a2 : Option Addr) (c2 : Nat) => [(1, .int .u8 a), (5, .slice au L.length cu), (6, .slice a2 j c2), (8, .int .i64 ((L.length : Int) - 1 - (j : Nat)))]) (fun (j : Nat) (a2 : Option Addr) (c2 : Nat) => fun w' => j ≤ L.length ∧ Hp w [] [.row a2 (j) c2 58 9 ((L.reverse.take j).flatMap Oup.c), .row au (L.length) cu 58 9 ((L).flatMap Oup.c)] w') (fun (j : Nat) (a2 : Option Addr) (c2 : Nat) => L.length - j) 0 (some ⟨b19, 0, none⟩) 0 ?_ ?_ ?_
        · exact ⟨rfl, rfl, rfl, lk_int rfl (by omega), trivial⟩
        · exact fun _ h => ⟨by omega, h.perm (List.Perm.swap _ _ _)⟩
        · intro j a2 c2
          refine jc_and (fun hj => ?_)
          refine jc_seq ?_
          refine jc_seq ?_
          -- region 7
          refine jc_region ?_
          refine jl_y rfl (by decide) rfl (y_move rfl) ?_
          refine jl_y rfl (by decide) rfl (y_geq rfl rfl) ?_
          refine jl_prop (fun h42 => ?_) (fun h42 => ?_)
          · first
            | (exfalso; omega)
            | (
              refine jl_nil ?_
              refine jq_then ?_
              refine jc_true rfl ?_
              refine jc_skip ?_
              refine jq_then ?_
              refine jc_seq ?_
              refine jc_block ?_
              refine jc_seq ?_
              -- region 9
              have hjl : j < L.length := by omega
              refine jc_pure (p := ∃ b, au = some ⟨b, 0, none⟩) (fun w h => row_some (h.get (A := .row au (L.length) cu 58 9 ((L).flatMap Oup.c)) mem1) (by omega)) (fun hb => ?_)
              obtain ⟨bb, rfl⟩ := hb
              have hlt : L.length - 1 - j < L.length := by omega
              have hold := ou_hold hlt
              have hnx := rev_take hjl
              have hxm := List.getElem_mem hlt
              generalize hxe : L[L.length - 1 - j]'hlt = x at *
              refine jc_region ?_
              refine jl_y rfl (by decide) rfl (y_move rfl) ?_
              refine jl_y rfl (by decide) rfl (y_move rfl) ?_
              refine jl_y rfl (by decide) rfl (y_move rfl) ?_
              refine jl_y rfl (by decide) rfl (y_indexAddr_slice (off := (L.length - 1 - j) * 9) rfl rfl (by omega) (by omega) (by omega)) ?_
              refine jl_y rfl (by decide) rfl (y_loadAgg_row rfl (by first | exact mem0 | exact mem1 | exact mem2 | exact mem3 | exact mem4 | exact mem5) rfl hold) ?_
              refine jl_m rfl (by decide) rfl (m_buildSlice (size := 9) (by decide) (Built.agg rfl rfl rfl (by repeat constructor) Built.nil)) (fun b50 => ?_)
              refine jl_m2 rfl (by decide) rfl (m_append rfl rfl (by first | exact del0 | exact del1 | exact del2 | exact del3 | exact del4) (by first | exact del0 | exact del1 | exact del2 | exact del3 | exact del4) rfl (by omega) (by omega)) (fun a51 c51 => ?_)
              refine jl_y rfl (by decide) rfl (y_assign rfl) ?_
              refine jl_nil ?_
              refine jq_then ?_
              refine jc_seq ?_
              -- region 10
              refine jc_region ?_
              refine jl_y rfl (by decide) rfl (y_move rfl) ?_
              refine jl_y rfl (by decide) rfl (y_move rfl) ?_
              refine jl_y rfl (by decide) rfl (y_indexAddr_slice (off := (L.length - 1 - j) * 9) rfl rfl (by omega) (by omega) (by omega)) ?_
              refine jl_y rfl (by decide) rfl (y_loadAgg_row rfl (by first | exact mem0 | exact mem1 | exact mem2 | exact mem3 | exact mem4 | exact mem5) rfl hold) ?_
              refine jl_pcall rfl (by decide) rfl (goes_func rfl) (fun w1 hw1 => pcall hw1 (cfits_any x w1)) ?_
              refine jl_bool (fun h56 => ?_) (fun h56 => ?_)
              · skip
                refine jl_y rfl (by decide) rfl (y_move rfl) ?_
                refine jl_y rfl (by decide) rfl (y_move rfl) ?_
                refine jl_y rfl (by decide) rfl (y_move rfl) ?_
                refine jl_y rfl (by decide) rfl (y_indexAddr_slice (off := (L.length - 1 - j) * 9) rfl rfl (by omega) (by omega) (by omega)) ?_
                refine jl_y rfl (by decide) rfl (y_fieldAddr rfl) ?_
                refine jl_y rfl (by decide) rfl (y_load_row rfl (by first | exact mem0 | exact mem1 | exact mem2 | exact mem3 | exact mem4 | exact mem5) (hold 1 _ rfl)) ?_
                refine jl_y rfl (by decide) rfl (y_eql rfl rfl) ?_
                refine jl_prop (fun h63 => ?_) (fun h63 => ?_)
                · exfalso; have := (ouFits_iff.1 (by assumption)).1; omega
                · skip
                  refine jl_y rfl (by decide) rfl (y_pick_true rfl rfl) ?_
                  refine jl_nil ?_
                  refine jq_then ?_
                  refine jc_false rfl ?_
                  refine jc_skip ?_
                  refine jq_block ?_
                  refine jq_then ?_
                  -- region 8
                  refine jc_region ?_
                  refine jl_y rfl (by decide) rfl (y_move rfl) ?_
                  refine jl_y rfl (by decide) rfl (y_sub_fits rfl rfl (by simp only [fits]; omega)) ?_
                  refine jl_y rfl (by decide) rfl (y_assign rfl) ?_
                  refine jl_nil ?_
                  refine jq_round3 (i := j) (j := a2) (l := c2) (j + 1) a51 c51 ?_ ?_ ?_
                  · omega
                  · exact ⟨rfl, rfl, rfl, lk_int rfl (by omega), trivial⟩
                  · exact fun _ h => ⟨by omega, h.cast (by rw [hnx]; rfl)⟩
              · skip
                refine jl_y rfl (by decide) rfl (y_move rfl) ?_
                refine jl_skip rfl (by decide) rfl ?_
                refine jl_skip rfl (by decide) rfl ?_
                refine jl_skip rfl (by decide) rfl ?_
                refine jl_skip rfl (by decide) rfl ?_
                refine jl_skip rfl (by decide) rfl ?_
                refine jl_skip rfl (by decide) rfl ?_
                refine jl_y rfl (by decide) rfl (y_pick_false rfl rfl) ?_
                refine jl_nil ?_
                refine jq_then ?_
                refine jc_false rfl ?_
                refine jc_skip ?_
                refine jq_block ?_
                refine jq_then ?_
                -- region 8
                refine jc_region ?_
                refine jl_y rfl (by decide) rfl (y_move rfl) ?_
                refine jl_y rfl (by decide) rfl (y_sub_fits rfl rfl (by simp only [fits]; omega)) ?_
                refine jl_y rfl (by decide) rfl (y_assign rfl) ?_
                refine jl_nil ?_
                refine jq_round3 (i := j) (j := a2) (l := c2) (j + 1) a51 c51 ?_ ?_ ?_
                · omega
                · exact ⟨rfl, rfl, rfl, lk_int rfl (by omega), trivial⟩
                · exact fun _ h => ⟨by omega, h.cast (by rw [hnx]; rfl)⟩
              )
          · first
            | (exfalso; omega)
            | (
              refine jl_nil ?_
              refine jq_then ?_
              refine jc_false rfl ?_
              refine jc_exit ?_
              refine jq_then_exit ?_
              refine jq_then_exit ?_
              refine jq_hit ?_
              refine jq_then ?_
              refine jc_seq ?_
              -- region 12
              have hj : j = L.length := by omega
              subst hj
              refine jc_world (fun _ h => h.cast (H' := [.row a2 (L.length) c2 58 9 ((L.reverse).flatMap Oup.c), .row au (L.length) cu 58 9 ((L).flatMap Oup.c)]) (by rw [List.take_of_length_le (by rw [List.length_reverse]; exact Nat.le_refl _)])) ?_
              refine jc_region ?_
              refine jl_y rfl (by decide) rfl (y_move rfl) ?_
              first | refine jl_y rfl (by decide) rfl (y_conv_fits rfl (by simp only [fits]; omega)) ?_
              refine jl_y rfl (by decide) rfl (y_move rfl) ?_
              refine jl_y rfl (by decide) rfl (y_len_slice rfl) ?_
              refine jl_y rfl (by decide) rfl (y_add_fits rfl rfl (by simp only [fits]; omega)) ?_
              refine jl_y rfl (by decide) rfl (y_rem rfl rfl (by omega) (by omega)) ?_
              refine jl_as (u := .int .i64 ((q : Nat) : Int)) (congrArg (Value.int .i64) hq) ?_
              refine jl_y rfl (by decide) rfl (y_assign rfl) ?_
              refine jl_nil ?_
              refine jq_then ?_
              refine jc_seq ?_
              -- region 13
              refine jc_region ?_
              refine jl_y rfl (by decide) rfl (y_move rfl) ?_
              refine jl_pcall rfl (by decide) rfl (goes_func rfl) (fun w1 hw1 => pcall hw1 (whole_any au cu L w1 hLf (by omega) (ElAt.of_row (c := Oup.c) (fun _ => rfl) rfl (hw1.get (A := .row au (L.length) cu 58 9 ((L).flatMap Oup.c)) mem1)))) ?_
              refine jl_y rfl (by decide) rfl (y_move rfl) ?_
              refine jl_y rfl (by decide) rfl (y_extract rfl rfl) ?_
              refine jl_y rfl (by decide) rfl (y_extract rfl rfl) ?_
              refine jl_y rfl (by decide) rfl (y_assign rfl) ?_
              refine jl_y rfl (by decide) rfl (y_assign rfl) ?_
              refine jl_nil ?_
              refine jq_then ?_
              refine jc_seq ?_
              -- region 14
              refine jc_region ?_
              refine jl_y rfl (by decide) rfl (y_move rfl) ?_
              refine jl_as (u := .slice a2 L.reverse.length c2) (by rw [List.length_reverse]) ?_
              refine jl_pcall rfl (by decide) rfl (goes_func rfl) (fun w1 hw1 => pcall hw1 (whole_any a2 c2 L.reverse w1 (fun o ho => hLf o (List.mem_reverse.1 ho)) (by rw [List.length_reverse]; omega) (ElAt.of_row (c := Oup.c) (fun _ => rfl) (List.length_reverse).symm (hw1.get (A := .row a2 (L.length) c2 58 9 ((L.reverse).flatMap Oup.c)) mem0)))) ?_
              refine jl_as (u := .tuple #[.int .u64 (sumA (L.map Oup.amount)), .int .i64 (sumE (L.map Oup.amount))]) (by rw [(sumA_rev L).1, (sumA_rev L).2]) ?_
              refine jl_y rfl (by decide) rfl (y_move rfl) ?_
              refine jl_y rfl (by decide) rfl (y_extract rfl rfl) ?_
              refine jl_y rfl (by decide) rfl (y_extract rfl rfl) ?_
              refine jl_y rfl (by decide) rfl (y_assign rfl) ?_
              refine jl_y rfl (by decide) rfl (y_assign rfl) ?_
              refine jl_nil ?_
              refine jq_then ?_
              refine jc_seq ?_
              -- region 15
              refine jc_region ?_
              refine jl_y rfl (by decide) rfl (y_move rfl) ?_
              refine jl_y rfl (by decide) rfl (y_move rfl) ?_
              refine jl_y rfl (by decide) rfl (y_sl_hi rfl rfl (by omega) (by omega)) ?_
              refine jl_as (u := .slice au (L.take q).length cu) (by rw [Int.toNat_natCast, List.length_take, Nat.min_eq_left hqL]) ?_
              refine jl_pcall rfl (by decide) rfl (goes_func rfl) (fun w1 hw1 => pcall hw1 (whole_any au cu (L.take q) w1 (fun o ho => hLf o (List.mem_of_mem_take ho)) (by rw [List.length_take]; omega) (by rw [List.map_take]; exact (ElAt.of_row (c := Oup.c) (fun _ => rfl) rfl (hw1.get (A := .row au (L.length) cu 58 9 ((L).flatMap Oup.c)) mem1)).take q))) ?_
              refine jl_y rfl (by decide) rfl (y_move rfl) ?_
              refine jl_y rfl (by decide) rfl (y_extract rfl rfl) ?_
              refine jl_y rfl (by decide) rfl (y_extract rfl rfl) ?_
              refine jl_y rfl (by decide) rfl (y_assign rfl) ?_
              refine jl_y rfl (by decide) rfl (y_assign rfl) ?_
              refine jl_nil ?_
              refine jq_then ?_
              refine jc_seq ?_
              -- region 16
              refine jc_region ?_
              refine jl_y rfl (by decide) rfl (y_move rfl) ?_
              refine jl_y rfl (by decide) rfl (y_move rfl) ?_
              refine jl_y rfl (by decide) rfl (y_sl_lo rfl rfl (by omega) (by omega)) ?_
              refine jl_as (u := .slice (subAd au cu q 9) (L.drop q).length (cu - q)) (by rw [Int.toNat_natCast, List.length_drop]) ?_
              refine jl_pcall rfl (by decide) rfl (goes_func rfl) (fun w1 hw1 => pcall hw1 (whole_any (subAd au cu q 9) (cu - q) (L.drop q) w1 (fun o ho => hLf o (List.mem_of_mem_drop ho)) (by rw [List.length_drop]; omega) (by rw [List.map_drop]; exact (ElAt.of_row (c := Oup.c) (fun _ => rfl) rfl (hw1.get (A := .row au (L.length) cu 58 9 ((L).flatMap Oup.c)) mem1)).drop q (by rw [List.length_map]; exact hcap)))) ?_
              refine jl_y rfl (by decide) rfl (y_move rfl) ?_
              refine jl_y rfl (by decide) rfl (y_extract rfl rfl) ?_
              refine jl_y rfl (by decide) rfl (y_extract rfl rfl) ?_
              refine jl_y rfl (by decide) rfl (y_assign rfl) ?_
              refine jl_y rfl (by decide) rfl (y_assign rfl) ?_
              refine jl_nil ?_
              refine jq_then ?_
              refine jc_seq ?_
              -- region 17
              refine jc_region ?_
              refine jl_y rfl (by decide) rfl (y_move rfl) ?_
              refine jl_y rfl (by decide) rfl (y_move rfl) ?_
              refine jl_y rfl (by decide) rfl (y_eql rfl rfl) ?_
              refine jl_as (u := .bool true) (congrArg Value.bool (decide_eq_true rfl)) ?_
              refine jl_y rfl (by decide) rfl (y_move rfl) ?_
              refine jl_y rfl (by decide) rfl (y_move rfl) ?_
              refine jl_y rfl (by decide) rfl (y_move rfl) ?_
              refine jl_y rfl (by decide) rfl (y_eql rfl rfl) ?_
              refine jl_as (u := .bool true) (congrArg Value.bool (decide_eq_true rfl)) ?_
              refine jl_y rfl (by decide) rfl (y_pick_true rfl rfl) ?_
              refine jl_y rfl (by decide) rfl (y_move rfl) ?_
              refine jl_y rfl (by decide) rfl (y_move rfl) ?_
              refine jl_y rfl (by decide) rfl (y_neq rfl rfl) ?_
              refine jl_prop (fun h105 => ?_) (fun h105 => ?_)
              · first
                | (exfalso; omega)
                | (
                  refine jl_y rfl (by decide) rfl (y_move rfl) ?_
                  refine jl_skip rfl (by decide) rfl ?_
                  refine jl_skip rfl (by decide) rfl ?_
                  refine jl_skip rfl (by decide) rfl ?_
                  refine jl_skip rfl (by decide) rfl ?_
                  refine jl_skip rfl (by decide) rfl ?_
                  refine jl_skip rfl (by decide) rfl ?_
                  refine jl_skip rfl (by decide) rfl ?_
                  refine jl_skip rfl (by decide) rfl ?_
                  refine jl_skip rfl (by decide) rfl ?_
                  refine jl_skip rfl (by decide) rfl ?_
                  refine jl_skip rfl (by decide) rfl ?_
                  refine jl_skip rfl (by decide) rfl ?_
                  refine jl_skip rfl (by decide) rfl ?_
                  refine jl_y rfl (by decide) rfl (y_pick_true rfl rfl) ?_
                  refine jl_y rfl (by decide) rfl (y_pick_true rfl rfl) ?_
                  refine jl_y rfl (by decide) rfl (y_move rfl) ?_
                  refine jl_pcall rfl (by decide) rfl (goes_func rfl) (fun w1 hw1 => pcall hw1 (fixed9_any w1)) ?_
                  refine jl_y rfl (by decide) rfl (y_pick_true rfl rfl) ?_
                  refine jl_y rfl (by decide) rfl (y_assign rfl) ?_
                  refine jl_nil ?_
                  refine jq_then ?_
                  refine jc_ret ?_
                  refine jq_ret1 rfl rfl ?_
                  exact fun _ hw => ⟨rfl, hw.ch⟩
                  )
              · first
                | (exfalso; omega)
                | (
                  refine jl_y rfl (by decide) rfl (y_move rfl) ?_
                  refine jl_y rfl (by decide) rfl (y_move rfl) ?_
                  refine jl_y rfl (by decide) rfl (y_eql rfl rfl) ?_
                  refine jl_as (u := .bool true) (congrArg Value.bool (decide_eq_true (wh_parts hLf q h105).1)) ?_
                  refine jl_y rfl (by decide) rfl (y_move rfl) ?_
                  refine jl_y rfl (by decide) rfl (y_move rfl) ?_
                  refine jl_y rfl (by decide) rfl (y_eql rfl rfl) ?_
                  refine jl_as (u := .bool true) (congrArg Value.bool (decide_eq_true (wh_parts hLf q h105).2.1)) ?_
                  refine jl_y rfl (by decide) rfl (y_pick_true rfl rfl) ?_
                  refine jl_y rfl (by decide) rfl (y_move rfl) ?_
                  refine jl_y rfl (by decide) rfl (y_move rfl) ?_
                  refine jl_y rfl (by decide) rfl (y_move rfl) ?_
                  refine jl_y rfl (by decide) rfl (y_add_u64 rfl rfl) ?_
                  refine jl_y rfl (by decide) rfl (y_move rfl) ?_
                  refine jl_y rfl (by decide) rfl (y_eql rfl rfl) ?_
                  refine jl_as (u := .bool true) (congrArg Value.bool (decide_eq_true (wh_parts hLf q h105).2.2)) ?_
                  refine jl_y rfl (by decide) rfl (y_pick_true rfl rfl) ?_
                  refine jl_y rfl (by decide) rfl (y_pick_false rfl rfl) ?_
                  refine jl_y rfl (by decide) rfl (y_pick_true rfl rfl) ?_
                  refine jl_y rfl (by decide) rfl (y_move rfl) ?_
                  refine jl_pcall rfl (by decide) rfl (goes_func rfl) (fun w1 hw1 => pcall hw1 (fixed9_any w1)) ?_
                  refine jl_y rfl (by decide) rfl (y_pick_true rfl rfl) ?_
                  refine jl_y rfl (by decide) rfl (y_assign rfl) ?_
                  refine jl_nil ?_
                  refine jq_then ?_
                  refine jc_ret ?_
                  refine jq_ret1 rfl rfl ?_
                  exact fun _ hw => ⟨rfl, hw.ch⟩
                  )
              )
        )

end Go.Proofs.Ytamlleachfngeaa