/- The walk of NoteSums. Written by program (walk.py) out of a table of contracts and invariants. -/
import Derived.Test.YtddpoigfliaklaaGreatNf
import Derived.Test.YtddpoigfliaklaaGreatMwot
import Derived.Test.YtddpoigfliaklaaGreatJu
namespace Go.Proofs.YtddpoigfliaklaaGreat
open Go.RowKit
set_option maxRecDepth 100000
set_option maxHeartbeats 1000000
set_option linter.unusedVariables false
set_option linter.unusedSimpArgs false
def tmC (t : Tm) : Tm := if 300 < t.tokens ∧ t.tokens ≤ 4096 then { t with tokens := 300 } else t
theorem tmC_yes {t : Tm} (h : 300 < t.tokens ∧ t.tokens ≤ 4096) : tmC t = { t with tokens := 300 } := by unfold tmC; rw [if_pos h]
theorem tmC_no {t : Tm} (h : ¬ (300 < t.tokens ∧ t.tokens ≤ 4096)) : tmC t = t := by unfold tmC; rw [if_neg h]
theorem tmC_fit {t : Tm} (h : t.Fit) : (tmC t).Fit := by
  unfold tmC
  split
  · exact ⟨h.unit, (⟨by decide, by decide⟩ : fits .i64 300)⟩
  · exact h
theorem tmC_chan (t : Tm) : (tmC t).chan = t.chan := by unfold tmC; split <;> rfl

theorem rev_take {L : List Wn} {j : Nat} (h : j < L.length) : (L.reverse.take (j + 1)).flatMap Wn.c = (L.reverse.take j).flatMap Wn.c ++ Wn.c (L[L.length - 1 - j]'(by omega)) ∧ (L.reverse.take (j + 1)).map (·.t.face) = (L.reverse.take j).map (·.t.face) ++ [(L[L.length - 1 - j]'(by omega)).t.face] := by
  rw [List.take_succ_eq_append_getElem (by rw [List.length_reverse]; exact h), List.flatMap_append, List.getElem_reverse, List.map_append]
  simp
theorem rev_all (L : List Wn) : L.reverse.take L.length = L.reverse := List.take_of_length_le (by rw [List.length_reverse]; exact Nat.le_refl _)

theorem r1sum_any (ad : Option Addr) (c : Nat) (l : List Int) (w : World) (hf : ∀ n ∈ l, fits .u64 n) (hl : l.length ≤ 1000000000) (hL : Ints w ad .u64 l) :
  Calls Tryz.prog 32 #[.slice ad l.length c] w fun e w' => e = .returned (.tuple #[.int .u64 (sumA l), .int .i64 (sumE l)]) ∧ Ch [] w w' := by
 refine calls_of (n := 27) (E := [(0, .slice ad l.length c)]) (W := Hp w [] []) Tryz.func32 rfl rfl (Nat.le_of_ble_eq_true rfl) rfl (Hp.nil _ _) ?_
 refine jsr ?_
 refine jz ?_
 refine jz ?_
 refine jnt ?_
 refine jsr ?_
 refine jz ?_
 refine jnt ?_
 refine jc_seq ?_
 refine jsr ?_
 refine jz ?_
 refine jnt ?_
 refine jc_block ?_
 refine jc_loop (fun (i : Nat) => [(0, .slice ad l.length c), (4, .int .u64 (l.take i).sum), (5, .int .i64 (i : Nat))]) (fun (i : Nat) => fun w' => (i ≤ l.length ∧ (l.take i).sum < 18446744073709551616) ∧ Hp w [] [] w') (fun (i : Nat) => l.length - i) 0 ?_ ?_ ?_
 ·exact ⟨rfl, rfl, rfl, trivial⟩
 ·exact fun _ h => ⟨⟨by omega, by simp⟩, h⟩
 ·intro i
  refine jc_and (fun hi => ?_)
  refine jc_seq ?_
  refine jsr ?_
  refine jz ?_
  refine jz ?_
  refine jy (y_len_slice rfl) ?_
  refine jy (y_lss rfl rfl) ?_
  refine jl_prop (fun h9 => ?_) (fun h9 => ?_)
  ·first
   | (exfalso; omega)
   | (
    have hlt : i < l.length := by omega
    obtain ⟨bb, oo, ea, hc⟩ := hL i hlt
    subst ea
    have hfn := hf _ (List.getElem_mem hlt)
    simp only [fits] at hfn
    have hst := sum_take hlt
    have hpp := sum_part hf (i + 1)
    have hp0 := sum_part hf i
    generalize hxe : l[i]'hlt = n at *
    refine jnt ?_
    refine jc_true rfl ?_
    refine jc_skip ?_
    refine jq_then ?_
    refine jc_seq ?_
    refine jc_block ?_
    refine jc_seq ?_
    refine jc_seq ?_
    refine jc_draw (by kernel_rfl) (fun _ h => h.drew) ?_
    refine juz ?_
    refine juz ?_
    refine juy (y_indexAddr_slice (off := oo + i) rfl rfl (by omega) (by omega) (by omega)) ?_
    refine juy (y_load_old rfl hc (by simp)) ?_
    refine ju_call rfl (by decide) rfl (goes_func rfl) (fun w1 hw1 => pcall hw1 (rtop_any w1)) ?_
    refine juz ?_
    refine juy (y_sub_u64 rfl rfl) ?_
    refine ju_as (u := .int .u64 (18446744073709551615 - (l.take i).sum)) (congrArg (Value.int .u64) (by omega)) ?_
    refine juy (y_gtr rfl rfl) ?_
    refine ju_prop (fun h19 => ?_) (fun h19 => ?_)
    ·first
     | (exfalso; omega)
     | (
      refine ju_nil ?_
      refine jq_then ?_
      refine jc_true rfl ?_
      refine jsr ?_
      refine jz ?_
      refine jz ?_
      refine jnt ?_
      refine jc_ret ?_
      refine jq_then_ret ?_
      refine jq_block_ret ?_
      refine jq_then_ret ?_
      refine jq_then_ret ?_
      refine jq_block_ret ?_
      refine jq_then_ret ?_
      refine jq_ret2 rfl rfl rfl ?_
      exact fun _ hw => ⟨by have : 18446744073709551616 ≤ l.sum := (by omega); unfold sumA sumE; rw [if_pos this, if_pos this], hw.ch⟩
      )
    ·first
     | (exfalso; omega)
     | (
      refine ju_nil ?_
      refine jq_then ?_
      refine jc_false rfl ?_
      refine jc_skip ?_
      refine jq_then ?_
      refine jc_region ?_
      refine jz ?_
      refine jz ?_
      refine jz ?_
      refine jy (y_indexAddr_slice (off := oo + i) rfl rfl (by omega) (by omega) (by omega)) ?_
      refine jy (y_load_old rfl hc (by simp)) ?_
      refine jy (y_add_u64 rfl rfl) ?_
      refine jl_as (u := .int .u64 (l.take (i + 1)).sum) (congrArg (Value.int .u64) (by omega)) ?_
      refine jz ?_
      refine jl_nil ?_
      refine jq_block ?_
      refine jq_then ?_
      refine jc_region ?_
      refine jz ?_
      refine jy (y_add_fits rfl rfl (by simp only [fits]; omega)) ?_
      refine jz ?_
      refine jl_nil ?_
      refine jq_round (i := i) (i + 1) ?_ ?_ ?_
      ·omega
      ·exact ⟨rfl, rfl, lk_int rfl (by omega), trivial⟩
      ·exact fun _ h => ⟨⟨by omega, by omega⟩, h⟩
      )
    )
  ·first
   | (exfalso; omega)
   | (
    refine jnt ?_
    refine jc_false rfl ?_
    refine jc_exit ?_
    refine jq_then_exit ?_
    refine jq_then_exit ?_
    refine jq_hit ?_
    refine jq_then ?_
    refine jsr ?_
    refine jz ?_
    refine jz ?_
    refine jz ?_
    refine jnt ?_
    refine jc_ret ?_
    refine jq_ret2 rfl rfl rfl ?_
    exact fun _ hw => ⟨by have h1 := hi.2; rw [List.take_of_length_le (by omega)] at h1 ⊢; unfold sumA sumE; rw [if_neg (by omega), if_neg (by omega)], hw.ch⟩
    )

theorem noteSums_any (t : Tm) (p : Pf) (ad : Option Addr) (c : Nat) (w : World) (hg : t.Fit) (hf : p.Fit) (hE : ElAt w ad 10 (p.wins.map Wn.c)) (hz : t.chan.size ≤ 1048576) :
  Calls Tryz.prog 6 #[.agg (Tm.c t).toArray, .agg (Pf.c p ad c).toArray] w fun e w' => e = .returned (.bool true) ∧ Ch [] w w' := by
 have hcf := ctPf_fit hf
 have htf := tmC_fit hg
 have hlp := ctPf_len p
 have htc : (tmC t).chan.size ≤ 1048576 := by rw [tmC_chan]; exact hz
 refine calls_of (n := 148) (E := [(0, .agg (Tm.c t).toArray), (1, .agg (Pf.c p ad c).toArray)]) (W := Hp w [] []) Tryz.func6 rfl rfl (Nat.le_of_ble_eq_true rfl) rfl (Hp.nil _ _) ?_
 refine jsr ?_
 refine jl_m rfl (by decide) rfl (m_box rfl rfl) (fun b2 => ?_)
 refine jl_m rfl (by decide) rfl (m_box rfl rfl) (fun b3 => ?_)
 refine jz ?_
 refine jnt ?_
 refine jsr ?_
 refine jz ?_
 refine jl_fcall rfl (by decide) rfl (goes_func rfl) (fun w1 hw1 => cutpf_any p ad c w1 (hE.keep hw1)) (fun q => ?_)
 refine jst ?_
 refine jnt ?_
 refine jc_join ([(2, .pointer (some ⟨b2, 0, none⟩)), (3, .pointer (some ⟨b3, 0, none⟩))]) (W' := Hp w [] [.row q.1 (ctPf p).wins.length q.2 26 10 ((ctPf p).wins.flatMap Wn.c), .cells b3 (Pf.c (ctPf p) q.1 q.2), .cells b2 (Tm.c (tmC t))]) ?_ ?_
 ·skip
  refine jsr ?_
  refine jz ?_
  refine jz ?_
  refine jpc (goes_func rfl) (fun w1 hw1 => worth_any (tmC t) (ctPf p) q.1 q.2 w1 (ElAt.of_row wn_len rfl (hw1.get mem0)) htf hcf (by omega) (by omega)) ?_
  refine jz ?_
  refine jz ?_
  refine jz ?_
  refine jz ?_
  refine jz ?_
  refine jnt ?_
  refine jc_seq ?_
  refine jsr ?_
  refine jz ?_
  refine jy (y_neq rfl rfl) ?_
  refine jl_prop (fun h34 => ?_) (fun h34 => ?_)
  ·first
   | (exfalso; omega)
   | (
    refine jnt ?_
    refine jc_true rfl ?_
    refine jsr ?_
    refine jz ?_
    refine jy (y_eql rfl rfl) ?_
    refine jl_as (u := .bool true) (congrArg Value.bool (decide_eq_true (worth_bad h34))) ?_
    refine jz ?_
    refine jpc (goes_func rfl) (fun w1 hw1 => fixed8_any w1) ?_
    refine jy (y_pick_true rfl rfl) ?_
    refine jz ?_
    refine jnt ?_
    refine jc_ret ?_
    refine jq_then_ret ?_
    refine jq_ret1 rfl rfl ?_
    exact fun _ hw => ⟨rfl, hw.ch⟩
    )
  ·first
   | (exfalso; omega)
   | (
    refine jnt ?_
    refine jc_false rfl ?_
    refine jc_skip ?_
    refine jq_then ?_
    refine jc_seq ?_
    refine jc_rebase (fun wx hbx => ?_)
    have hP : Old wx b3 0 (Pf.c (ctPf p) q.1 q.2) := Old.of_cells (hbx.get mem1)
    have hT : Old wx b2 0 (Tm.c (tmC t)) := Old.of_cells (hbx.get mem2)
    have eP : ElAt wx q.1 10 ((ctPf p).wins.map Wn.c) := ElAt.of_row wn_len rfl (hbx.get mem0)
    have hz0 : worthE (tmC t) (ctPf p) = 0 := Decidable.not_not.1 h34
    have hs := worth_sums hz0 htf.unit.1 (fun x hx => (hcf.wins x hx).t.face.1)
    have htn := worth_turned hz0 (q := (⟨(ctPf p).amount, (ctPf p).sig, (ctPf p).token, (ctPf p).wins.reverse⟩ : Pf)) rfl
    have hvf := tokensV_fits (p := ctPf p) htf
    have hqf : (⟨(ctPf p).amount, (ctPf p).sig, (ctPf p).token, (ctPf p).wins.reverse⟩ : Pf).Fit := ⟨hcf.amount, fun x hx => hcf.wins x (List.mem_reverse.1 hx)⟩
    have hsf : ∀ n ∈ ((ctPf p).amount :: (ctPf p).wins.reverse.map (·.t.face)), fits .u64 n := fun n hn => (by rcases List.mem_cons.1 hn with rfl | hn; exact hcf.amount; obtain ⟨x, hx, rfl⟩ := List.mem_map.1 hn; exact (hqf.wins x hx).t.face)
    simp only [fits] at hvf
    refine jc_region ?_
    refine jz ?_
    refine jy (y_load_old rfl (hP 0 _ rfl) (by simp)) ?_
    refine jz ?_
    refine jy (y_load_old rfl (hP 1 _ rfl) (by simp)) ?_
    refine jz ?_
    refine jy (y_load_old rfl (hP 2 _ rfl) (by simp)) ?_
    refine jy (y_build (Built.cell rfl rfl rfl (by repeat constructor) (Built.cell rfl rfl rfl (by repeat constructor) (Built.cell rfl rfl rfl (by repeat constructor) Built.nil)))) ?_
    refine jl_m rfl (by decide) rfl (m_alloc) (fun b7 => ?_)
    refine jst ?_
    refine jnt ?_
    refine jsr ?_
    refine jz ?_
    refine jy (y_load_old rfl (hP 0 _ rfl) (by simp)) ?_
    refine jl_m rfl (by decide) rfl (m_buildSlice (by decide) (Built.cell rfl rfl rfl (by repeat constructor) Built.nil)) (fun b49 => ?_)
    refine jz ?_
    refine jnt ?_
    refine jc_seq ?_
    refine jsr ?_
    refine jz ?_
    refine jy (y_load_old rfl (hP 3 _ rfl) (by simp)) ?_
    refine jy (y_len_slice rfl) ?_
    refine jy (y_sub_fits rfl rfl (by simp only [fits]; omega)) ?_
    refine jz ?_
    refine jnt ?_
    refine jc_block ?_
    refine jc_loop4 (fun (j : Nat) (pr : Option Addr × Nat) (av : Option Addr) (cv : Nat) => [(2, .pointer (some ⟨b2, 0, none⟩)), (3, .pointer (some ⟨b3, 0, none⟩)), (5, .int .u64 (worthV (tmC t) (ctPf p))), (7, .pointer (some ⟨b7, 0, none⟩)), (8, .slice av (j + 1) cv), (9, .int .i64 (((ctPf p).wins.length : Int) - 1 - (j : Nat)))]) (fun (j : Nat) (pr : Option Addr × Nat) (av : Option Addr) (cv : Nat) => fun w' => j ≤ (ctPf p).wins.length ∧ Hp wx [] [.row pr.1 (j) pr.2 26 10 (((ctPf p).wins.reverse.take j).flatMap Wn.c), .cells b7 [.int .u64 (ctPf p).amount, .string (ctPf p).sig, .string (ctPf p).token, .slice pr.1 (j) pr.2], .row av (j + 1) cv 22 1 (((ctPf p).amount :: ((ctPf p).wins.reverse.take j).map (·.t.face)).map (Value.int .u64))] w') (fun (j : Nat) (pr : Option Addr × Nat) (av : Option Addr) (cv : Nat) => (ctPf p).wins.length - j) 0 (none, 0) (some ⟨b49, 0, none⟩) 1 ?_ ?_ ?_
    ·exact ⟨rfl, rfl, rfl, rfl, rfl, lk_int rfl (by omega), trivial⟩
    ·exact fun _ h => ⟨by omega, (h.nilrow 26 10).part (.cons del0 (.cons del1 (.cons del0 .nil)))⟩
    ·intro j pr av cv
     refine jc_and (fun hj => ?_)
     refine jc_seq ?_
     refine jsr ?_
     refine jz ?_
     refine jy (y_geq rfl rfl) ?_
     refine jl_prop (fun h55 => ?_) (fun h55 => ?_)
     ·first
      | (exfalso; omega)
      | (
       have hjl : j < (ctPf p).wins.length := by omega
       have hlt : (ctPf p).wins.length - 1 - j < (ctPf p).wins.length := by omega
       have hnx := rev_take hjl
       obtain ⟨bb, oo, ea, hold⟩ := eP.get hlt
       generalize hxe : (ctPf p).wins[(ctPf p).wins.length - 1 - j]'hlt = x at *
       refine jnt ?_
       refine jc_true rfl ?_
       refine jc_skip ?_
       refine jq_then ?_
       refine jc_seq ?_
       refine jc_block ?_
       refine jc_seq ?_
       refine jc_schedC (Hp wx [] [.cells b7 [.int .u64 (ctPf p).amount, .string (ctPf p).sig, .string (ctPf p).token, .slice pr.1 (j) pr.2]]) 8 [(0, true), (1, true), (2, true), (3, true), (4, true), (5, true), (6, true), (7, false)] rfl (by kernel_rfl) (fun _ _ _ _ h => h) (fun _ h => (h.part (.cons (by first | exact del0 | exact del1 | exact del2) .nil)).drew) (fun _ h => h.drew) ?_
       simp only [pickO, nthO, List.drop_succ_cons, List.drop_zero]
       refine jkz ?_
       refine jkz ?_
       refine jkz ?_
       refine jky (y_load_old rfl (hP 3 _ rfl) (by simp)) ?_
       refine js_as (u := .slice (some ⟨bb, oo, none⟩) (ctPf p).wins.length q.2) (by rw [ea]) ?_
       refine jkz ?_
       refine jky (y_indexAddr_slice (off := oo + ((ctPf p).wins.length - 1 - j) * 10) rfl rfl (by omega) (by omega) (by omega)) ?_
       refine jky (y_loadAgg_old rfl rfl hold (by simp)) ?_
       refine js_m (by intros; rename_i h; exact h.part (.cons (by first | exact del0 | exact del1 | exact del2) .nil)) rfl (by decide) rfl (m_buildSlice (size := 10) (by decide) (Built.agg rfl rfl rfl (by repeat constructor) Built.nil)) (fun b65 => ?_)
       refine js_nil ?_
       refine jl_m2 rfl (by decide) rfl (m_append rfl rfl (by first | exact del0 | exact del1 | exact del2 | exact del3 | exact del4) (by first | exact del0 | exact del1 | exact del2 | exact del3 | exact del4) rfl (by omega) (by omega)) (fun a66 c66 => ?_)
       refine jz ?_
       refine jst ?_
       refine jnt ?_
       refine jc_region ?_
       refine jz ?_
       refine jz ?_
       refine jy (y_load_old rfl (hP 3 _ rfl) (by simp)) ?_
       refine jl_as (u := .slice (some ⟨bb, oo, none⟩) (ctPf p).wins.length q.2) (by rw [ea]) ?_
       refine jz ?_
       refine jy (y_indexAddr_slice (off := oo + ((ctPf p).wins.length - 1 - j) * 10) rfl rfl (by omega) (by omega) (by omega)) ?_
       refine jz ?_
       refine jz ?_
       refine jy (y_load_old rfl (hold 2 _ rfl) (by simp)) ?_
       refine jl_m rfl (by decide) rfl (m_buildSlice (by decide) (Built.cell rfl rfl rfl (by repeat constructor) Built.nil)) (fun b76 => ?_)
       refine jl_m2 rfl (by decide) rfl (m_append rfl rfl (by first | exact del0 | exact del1 | exact del2 | exact del3 | exact del4) (by first | exact del0 | exact del1 | exact del2 | exact del3 | exact del4) rfl (by omega) (by omega)) (fun a77 c77 => ?_)
       refine jz ?_
       refine jl_nil ?_
       refine jq_block ?_
       refine jq_then ?_
       refine jc_region ?_
       refine jz ?_
       refine jy (y_sub_fits rfl rfl (by simp only [fits]; omega)) ?_
       refine jz ?_
       refine jl_nil ?_
       refine jq_round4 (i := j) (j := pr) (l := av) (m := cv) (j + 1) (a66, c66) a77 c77 ?_ ?_ ?_
       ·omega
       ·exact ⟨rfl, rfl, rfl, rfl, rfl, lk_int rfl (by omega), trivial⟩
       ·exact fun _ h => ⟨by omega, (h.part (F := [.row a66 (j + 1) c66 26 10 (((ctPf p).wins.reverse.take j).flatMap Wn.c ++ Wn.c x), .cells b7 [.int .u64 (ctPf p).amount, .string (ctPf p).sig, .string (ctPf p).token, .slice a66 (j + 1) c66], .row a77 (j + 1 + 1) c77 22 1 (((ctPf p).amount :: ((ctPf p).wins.reverse.take j).map (·.t.face)).map (Value.int .u64) ++ [.int .u64 x.t.face])]) (.cons del1 (.cons del1 (.cons del0 .nil)))).cast (by rw [hnx.1, hnx.2] <;> simp)⟩
       )
     ·first
      | (exfalso; omega)
      | (
       refine jnt ?_
       refine jc_false rfl ?_
       refine jc_exit ?_
       refine jq_then_exit ?_
       refine jq_then_exit ?_
       refine jq_hit ?_
       refine jq_then ?_
       refine jc_seq ?_
       have hje : j = (ctPf p).wins.length := by omega
       subst hje
       obtain ⟨sl, hsl⟩ : ∃ sl, ((ctPf p).amount :: (ctPf p).wins.reverse.map (·.t.face)) = sl := ⟨_, rfl⟩
       have hsn : sl.length = (ctPf p).wins.length + 1 := by rw [← hsl]; simp
       rw [hsl] at hs hsf
       refine jc_world (fun _ h => h.cast (H' := [.row pr.1 ((ctPf p).wins.length) pr.2 26 10 (((ctPf p).wins.reverse).flatMap Wn.c), .cells b7 [.int .u64 (ctPf p).amount, .string (ctPf p).sig, .string (ctPf p).token, .slice pr.1 ((ctPf p).wins.length) pr.2], .row av sl.length cv 22 1 (sl.map (Value.int .u64))]) (by rw [rev_all, hsn, ← hsl] <;> rfl)) ?_
       refine jc_region ?_
       refine jy (y_loadAgg_old rfl rfl hT (by simp)) ?_
       refine jy (y_loadAgg rfl (by first | exact mem0 | exact mem1 | exact mem2 | exact mem3 | exact mem4 | exact mem5) (by repeat constructor)) ?_
       refine jl_as (u := .agg (Pf.c (⟨(ctPf p).amount, (ctPf p).sig, (ctPf p).token, (ctPf p).wins.reverse⟩ : Pf) pr.1 pr.2).toArray) (by simp only [Pf.c, List.length_reverse]) ?_
       refine jpc (goes_func rfl) (fun w1 hw1 => worth_any (tmC t) (⟨(ctPf p).amount, (ctPf p).sig, (ctPf p).token, (ctPf p).wins.reverse⟩ : Pf) pr.1 pr.2 w1 (ElAt.of_row wn_len (List.length_reverse).symm (hw1.get mem0)) htf hqf (by rw [List.length_reverse]; omega) (by omega)) ?_
       refine jz ?_
       refine jz ?_
       refine jz ?_
       refine jz ?_
       refine jz ?_
       refine jnt ?_
       refine jc_seq ?_
       have hne : 0 ≤ worthV (tmC t) (ctPf p) := by have := hs.2.2.2; have := hs.2.2.1; have := hcf.amount.1; omega
       refine jc_region ?_
       refine jz ?_
       refine jl_as (u := .slice av sl.length cv) (by rw [hsn]) ?_
       refine jpc (goes_func rfl) (fun w1 hw1 => r1sum_any av cv sl w1 hsf (by omega) (Ints.of_row rfl (hw1.get mem2))) ?_
       refine jz ?_
       refine jz ?_
       refine jz ?_
       refine jz ?_
       refine jz ?_
       refine jnt ?_
       refine jsr ?_
       refine jz ?_
       refine jy (y_load_old rfl (hT 4 _ rfl) (by simp)) ?_
       refine jz ?_
       refine jy (y_load_old rfl (hT 3 _ rfl) (by simp)) ?_
       refine jpc (goes_func rfl) (fun w1 hw1 => value_any (tmC t).tokens (tmC t).unit w1 htf.tokens htf.unit) ?_
       refine jz ?_
       refine jz ?_
       refine jz ?_
       refine jz ?_
       refine jz ?_
       refine jnt ?_
       refine jsr ?_
       refine jz ?_
       refine jy (y_eql rfl rfl) ?_
       refine jl_as (u := .bool true) (congrArg Value.bool (decide_eq_true (htn.1))) ?_
       refine jz ?_
       refine jz ?_
       refine jz ?_
       refine jy (y_eql rfl rfl) ?_
       refine jl_as (u := .bool true) (congrArg Value.bool (decide_eq_true (htn.2.symm))) ?_
       refine jy (y_pick_true rfl rfl) ?_
       refine jz ?_
       refine jz ?_
       refine jy (y_eql rfl rfl) ?_
       refine jl_as (u := .bool true) (congrArg Value.bool (decide_eq_true (hs.1))) ?_
       refine jy (y_pick_true rfl rfl) ?_
       refine jz ?_
       refine jz ?_
       refine jz ?_
       refine jy (y_geq rfl rfl) ?_
       refine jl_as (u := .bool true) (congrArg Value.bool (decide_eq_true (by have := hs.2.1; have := hs.2.2.2; omega))) ?_
       refine jy (y_pick_true rfl rfl) ?_
       refine jz ?_
       refine jz ?_
       refine jz ?_
       refine jy (y_load_old rfl (hP 0 _ rfl) (by simp)) ?_
       refine jy (y_geq rfl rfl) ?_
       refine jl_as (u := .bool true) (congrArg Value.bool (decide_eq_true (hs.2.2.1))) ?_
       refine jy (y_pick_true rfl rfl) ?_
       refine jz ?_
       refine jz ?_
       refine jy (y_neq rfl rfl) ?_
       refine jl_prop (fun h121 => ?_) (fun h121 => ?_)
       ·first
        | (exfalso; omega)
        | (
         refine jz ?_
         refine jsk ?_
         refine jsk ?_
         refine jsk ?_
         refine jy (y_pick_true rfl rfl) ?_
         refine jz ?_
         refine jsk ?_
         refine jsk ?_
         refine jsk ?_
         refine jsk ?_
         refine jsk ?_
         refine jy (y_pick_true rfl rfl) ?_
         refine jy (y_pick_true rfl rfl) ?_
         refine jz ?_
         refine jz ?_
         refine jy (y_load_old rfl (hP 2 _ rfl) (by simp)) ?_
         refine jy (y_sneq rfl rfl) ?_
         refine jl_bool (fun h138 => ?_) (fun h138 => ?_)
         ·skip
          refine jz ?_
          refine jsk ?_
          refine jsk ?_
          refine jsk ?_
          refine jy (y_pick_true rfl rfl) ?_
          refine jy (y_pick_true rfl rfl) ?_
          refine jz ?_
          refine jpc (goes_func rfl) (fun w1 hw1 => fixed8_any w1) ?_
          refine jy (y_pick_true rfl rfl) ?_
          refine jz ?_
          refine jnt ?_
          refine jc_ret ?_
          refine jq_ret1 rfl rfl ?_
          exact fun _ hw => ⟨rfl, (hbx.ch.then hw.ch)⟩
         ·skip
          refine jz ?_
          refine jz ?_
          refine jz ?_
          refine jy (y_eql rfl rfl) ?_
          refine jl_as (u := .bool true) (congrArg Value.bool (decide_eq_true (by have h9 : tokensV (tmC t) (ctPf p) = 0 := (tok_none (by simpa using h138)).1; have := hs.2.1; omega))) ?_
          refine jy (y_pick_false rfl rfl) ?_
          refine jy (y_pick_true rfl rfl) ?_
          refine jz ?_
          refine jpc (goes_func rfl) (fun w1 hw1 => fixed8_any w1) ?_
          refine jy (y_pick_true rfl rfl) ?_
          refine jz ?_
          refine jnt ?_
          refine jc_ret ?_
          refine jq_ret1 rfl rfl ?_
          exact fun _ hw => ⟨rfl, (hbx.ch.then hw.ch)⟩
         )
       ·first
        | (exfalso; omega)
        | (
         refine jz ?_
         refine jz ?_
         refine jy (y_load_old rfl (hP 2 _ rfl) (by simp)) ?_
         refine jy (y_seql rfl rfl) ?_
         refine jl_prop (fun h125 => ?_) (fun h125 => ?_)
         ·skip
          refine jy (y_pick_false rfl rfl) ?_
          refine jz ?_
          refine jsk ?_
          refine jsk ?_
          refine jsk ?_
          refine jsk ?_
          refine jsk ?_
          refine jy (y_pick_true rfl rfl) ?_
          refine jy (y_pick_true rfl rfl) ?_
          refine jz ?_
          refine jz ?_
          refine jy (y_load_old rfl (hP 2 _ rfl) (by simp)) ?_
          refine jy (y_sneq rfl rfl) ?_
          refine jl_bool (fun h138 => ?_) (fun h138 => ?_)
          ·skip
           refine jz ?_
           refine jsk ?_
           refine jsk ?_
           refine jsk ?_
           refine jy (y_pick_true rfl rfl) ?_
           refine jy (y_pick_true rfl rfl) ?_
           refine jz ?_
           refine jpc (goes_func rfl) (fun w1 hw1 => fixed8_any w1) ?_
           refine jy (y_pick_true rfl rfl) ?_
           refine jz ?_
           refine jnt ?_
           refine jc_ret ?_
           refine jq_ret1 rfl rfl ?_
           exact fun _ hw => ⟨rfl, (hbx.ch.then hw.ch)⟩
          ·skip
           refine jz ?_
           refine jz ?_
           refine jz ?_
           refine jy (y_eql rfl rfl) ?_
           refine jl_as (u := .bool true) (congrArg Value.bool (decide_eq_true (by have h9 : tokensV (tmC t) (ctPf p) = 0 := (tok_none (by simpa using h138)).1; have := hs.2.1; omega))) ?_
           refine jy (y_pick_false rfl rfl) ?_
           refine jy (y_pick_true rfl rfl) ?_
           refine jz ?_
           refine jpc (goes_func rfl) (fun w1 hw1 => fixed8_any w1) ?_
           refine jy (y_pick_true rfl rfl) ?_
           refine jz ?_
           refine jnt ?_
           refine jc_ret ?_
           refine jq_ret1 rfl rfl ?_
           exact fun _ hw => ⟨rfl, (hbx.ch.then hw.ch)⟩
         ·skip
          refine jy (y_pick_false rfl rfl) ?_
          refine jz ?_
          refine jz ?_
          refine jz ?_
          refine jy (y_sub_u64 rfl rfl) ?_
          refine jl_as (u := .int .u64 (tokensV (tmC t) (ctPf p))) (congrArg _ (by have := hs.2.1; omega)) ?_
          refine jz ?_
          refine jy (y_leq rfl rfl) ?_
          refine jl_as (u := .bool true) (congrArg Value.bool (decide_eq_true (tokens_most htf.unit.1 (worth_zero.mp hz0).2.2.1 (Decidable.not_not.1 h121) (by assumption)))) ?_
          refine jy (y_pick_false rfl rfl) ?_
          refine jy (y_pick_true rfl rfl) ?_
          refine jz ?_
          refine jz ?_
          refine jy (y_load_old rfl (hP 2 _ rfl) (by simp)) ?_
          refine jy (y_sneq rfl rfl) ?_
          refine jl_bool (fun h138 => ?_) (fun h138 => ?_)
          ·skip
           refine jz ?_
           refine jsk ?_
           refine jsk ?_
           refine jsk ?_
           refine jy (y_pick_true rfl rfl) ?_
           refine jy (y_pick_true rfl rfl) ?_
           refine jz ?_
           refine jpc (goes_func rfl) (fun w1 hw1 => fixed8_any w1) ?_
           refine jy (y_pick_true rfl rfl) ?_
           refine jz ?_
           refine jnt ?_
           refine jc_ret ?_
           refine jq_ret1 rfl rfl ?_
           exact fun _ hw => ⟨rfl, (hbx.ch.then hw.ch)⟩
          ·skip
           refine jz ?_
           refine jz ?_
           refine jz ?_
           refine jy (y_eql rfl rfl) ?_
           refine jl_as (u := .bool true) (congrArg Value.bool (decide_eq_true (by have h9 : tokensV (tmC t) (ctPf p) = 0 := (tok_none (by simpa using h138)).1; have := hs.2.1; omega))) ?_
           refine jy (y_pick_false rfl rfl) ?_
           refine jy (y_pick_true rfl rfl) ?_
           refine jz ?_
           refine jpc (goes_func rfl) (fun w1 hw1 => fixed8_any w1) ?_
           refine jy (y_pick_true rfl rfl) ?_
           refine jz ?_
           refine jnt ?_
           refine jc_ret ?_
           refine jq_ret1 rfl rfl ?_
           exact fun _ hw => ⟨rfl, (hbx.ch.then hw.ch)⟩
         )
       )
    )
 ·skip
  refine jc_seq ?_
  refine jc_world (fun _ h => h.cast (H' := [.row q.1 (ctPf p).wins.length q.2 26 10 ((ctPf p).wins.flatMap Wn.c), .cells b3 (Pf.c (ctPf p) q.1 q.2), .cells b2 (Tm.c t)]) rfl) ?_
  refine jc_region ?_
  refine jz ?_
  refine jz ?_
  refine jy (y_gtr rfl rfl) ?_
  refine jl_prop (fun h20 => ?_) (fun h20 => ?_)
  ·first
   | (exfalso; omega)
   | (
    refine jz ?_
    refine jz ?_
    refine jz ?_
    refine jy (y_leq rfl rfl) ?_
    refine jl_prop (fun h24 => ?_) (fun h24 => ?_)
    ·first
     | (exfalso; omega)
     | (
      refine jy (y_pick_true rfl rfl) ?_
      refine jnt ?_
      refine jc_true rfl ?_
      refine jc_region ?_
      refine jz ?_
      refine jst ?_
      refine jl_nil ?_
      refine jq_join ?_ ?_
      ·exact ⟨rfl, rfl, trivial⟩
      ·first | exact fun _ h => h.cast (by rw [tmC_yes ⟨by omega, by omega⟩] <;> rfl) | exact fun _ h => h.cast (by rw [tmC_no (by omega)] <;> rfl)
      )
    ·first
     | (exfalso; omega)
     | (
      refine jy (y_pick_true rfl rfl) ?_
      refine jnt ?_
      refine jc_false rfl ?_
      refine jc_skip ?_
      refine jq_join ?_ ?_
      ·exact ⟨rfl, rfl, trivial⟩
      ·first | exact fun _ h => h.cast (by rw [tmC_yes ⟨by omega, by omega⟩] <;> rfl) | exact fun _ h => h.cast (by rw [tmC_no (by omega)] <;> rfl)
      )
    )
  ·first
   | (exfalso; omega)
   | (
    refine jz ?_
    refine jsk ?_
    refine jsk ?_
    refine jsk ?_
    refine jy (y_pick_false rfl rfl) ?_
    refine jnt ?_
    refine jc_false rfl ?_
    refine jc_skip ?_
    refine jq_join ?_ ?_
    ·exact ⟨rfl, rfl, trivial⟩
    ·first | exact fun _ h => h.cast (by rw [tmC_yes ⟨by omega, by omega⟩] <;> rfl) | exact fun _ h => h.cast (by rw [tmC_no (by omega)] <;> rfl)
    )

end Go.Proofs.YtddpoigfliaklaaGreat