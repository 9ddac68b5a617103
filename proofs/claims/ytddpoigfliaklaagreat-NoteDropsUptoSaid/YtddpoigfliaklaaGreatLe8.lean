/- The walk of NoteDrops. Written by program (walk.py) out of a table of contracts and invariants. -/
import Derived.Test.YtddpoigfliaklaaGreatNf
import Derived.Test.YtddpoigfliaklaaGreatMwot
import Derived.Test.YtddpoigfliaklaaGreatJu
import Derived.Test.YtddpoigfliaklaaGreatJs
namespace Go.Proofs.YtddpoigfliaklaaGreat
open Go.RowKit
set_option maxRecDepth 100000
set_option maxHeartbeats 1000000
set_option linter.unusedVariables false
set_option linter.unusedSimpArgs false
def tmC (t : Tm) : Tm := if 300 < t.tokens ∧ t.tokens ≤ 4096 then { t with tokens := 300 } else t
theorem tmC_yes {t : Tm} (h : 300 < t.tokens ∧ t.tokens ≤ 4096) : tmC t = { t with tokens := 300 } := by unfold tmC; rw [if_pos h]
theorem tmC_no {t : Tm} (h : ¬ (300 < t.tokens ∧ t.tokens ≤ 4096)) : tmC t = t := by unfold tmC; rw [if_neg h]
theorem tmC_fit {t : Tm} (h : t.Fit) : (tmC t).Fit := by
  unfold tmC
  split
  · exact ⟨h.unit, (⟨by decide, by decide⟩ : fits .i64 300)⟩
  · exact h
theorem worth_fits {t : Tm} {p : Pf} (hg : t.Fit) (hf : p.Fit) : fits .u64 (worthV t p) := by
  unfold worthV
  split
  · rename_i h
    have h1 := (worth_zero.mp h).2.2.2.2
    have h2 := sum_nonneg (l := partsA t p) fun n hn => (parts_fit hg hf n hn).1
    exact ⟨h2, by omega⟩
  · exact ⟨by decide, by decide⟩
theorem tmC_chan (t : Tm) : (tmC t).chan = t.chan := by unfold tmC; split <;> rfl

theorem last_of {l : List Wn} (h : ¬ l.length = 0) : ∃ m x, l = m ++ [x] := by
  refine ⟨l.dropLast, l.getLast (by intro e; rw [e] at h; exact h rfl), (List.dropLast_concat_getLast _).symm⟩

theorem noteDrops_any (t : Tm) (p : Pf) (ad : Option Addr) (c : Nat) (w : World) (hg : t.Fit) (hf : p.Fit) (hE : ElAt w ad 10 (p.wins.map Wn.c)) (hz : t.chan.size ≤ 1048576) :
  Calls Tryz.prog 8 #[.agg (Tm.c t).toArray, .agg (Pf.c p ad c).toArray] w fun e w' => e = .returned (.bool true) ∧ Ch [] w w' := by
 have hcf := ctPf_fit hf
 have htf := tmC_fit hg
 have hlp := ctPf_len p
 have htc : (tmC t).chan.size ≤ 1048576 := by rw [tmC_chan]; exact hz
 refine calls_of (n := 105) (E := [(0, .agg (Tm.c t).toArray), (1, .agg (Pf.c p ad c).toArray)]) (W := Hp w [] []) Tryz.func8 rfl rfl (Nat.le_of_ble_eq_true rfl) rfl (Hp.nil _ _) ?_
 refine jsr ?_
 refine jl_m rfl (by decide) rfl (m_box rfl rfl) (fun b2 => ?_)
 refine jl_m rfl (by decide) rfl (m_box rfl rfl) (fun b3 => ?_)
 refine jz ?_
 refine jnt ?_
 refine jsr ?_
 refine jz ?_
 refine jl_fcall rfl (by decide) rfl (goes_func rfl) (fun w1 hw1 => cutpf_any p ad c w1 (hE.keep hw1)) (fun q => ?_)
 refine jst ?_
 refine jnt ?_
 refine jc_join ([(2, .pointer (some ⟨b2, 0, none⟩)), (3, .pointer (some ⟨b3, 0, none⟩))]) (W' := Hp w [] [.row q.1 (ctPf p).wins.length q.2 26 10 ((ctPf p).wins.flatMap Wn.c), .cells b3 (Pf.c (ctPf p) q.1 q.2), .cells b2 (Tm.c (tmC t))]) ?_ ?_
 ·skip
  refine jsr ?_
  refine jz ?_
  refine jz ?_
  refine jpc (goes_func rfl) (fun w1 hw1 => worth_any (tmC t) (ctPf p) q.1 q.2 w1 (ElAt.of_row wn_len rfl (hw1.get mem0)) htf hcf (by omega) (by omega)) ?_
  refine jz ?_
  refine jz ?_
  refine jz ?_
  refine jz ?_
  refine jz ?_
  refine jnt ?_
  refine jc_seq ?_
  refine jsr ?_
  refine jz ?_
  refine jy (y_neq rfl rfl) ?_
  refine jl_prop (fun h31 => ?_) (fun h31 => ?_)
  ·first
   | (exfalso; omega)
   | (
    have hw42 := worth_bad h31
    refine jz ?_
    refine jsk ?_
    refine jsk ?_
    refine jsk ?_
    refine jsk ?_
    refine jy (y_pick_true rfl rfl) ?_
    refine jnt ?_
    refine jc_true rfl ?_
    refine jsr ?_
    refine jz ?_
    refine jy (y_eql rfl rfl) ?_
    refine jl_prop (fun h39 => ?_) (fun h39 => ?_)
    ·first
     | (exfalso; omega)
     | (
      refine jz ?_
      refine jsk ?_
      refine jsk ?_
      refine jy (y_pick_true rfl rfl) ?_
      refine jz ?_
      refine jpc (goes_func rfl) (fun w1 hw1 => fixed8_any w1) ?_
      refine jy (y_pick_true rfl rfl) ?_
      refine jz ?_
      refine jnt ?_
      refine jc_ret ?_
      refine jq_then_ret ?_
      refine jq_ret1 rfl rfl ?_
      exact fun _ hw => ⟨rfl, hw.ch⟩
      )
    ·first
     | (exfalso; omega)
     | (
      refine jz ?_
      refine jz ?_
      refine jy (y_eql rfl rfl) ?_
      refine jl_as (u := .bool true) (congrArg Value.bool (decide_eq_true (by first | exact worth_bad h31 | omega))) ?_
      refine jy (y_pick_false rfl rfl) ?_
      refine jz ?_
      refine jpc (goes_func rfl) (fun w1 hw1 => fixed8_any w1) ?_
      refine jy (y_pick_true rfl rfl) ?_
      refine jz ?_
      refine jnt ?_
      refine jc_ret ?_
      refine jq_then_ret ?_
      refine jq_ret1 rfl rfl ?_
      exact fun _ hw => ⟨rfl, hw.ch⟩
      )
    )
  ·first
   | (exfalso; omega)
   | (
    refine jz ?_
    refine jz ?_
    refine jz ?_
    refine jy (y_len_slice rfl) ?_
    refine jy (y_eql rfl rfl) ?_
    refine jl_prop (fun h36 => ?_) (fun h36 => ?_)
    ·first
     | (exfalso; omega)
     | (
      refine jy (y_pick_false rfl rfl) ?_
      refine jnt ?_
      refine jc_true rfl ?_
      refine jsr ?_
      refine jz ?_
      refine jy (y_eql rfl rfl) ?_
      refine jl_prop (fun h39 => ?_) (fun h39 => ?_)
      ·first
       | (exfalso; omega)
       | (
        refine jz ?_
        refine jsk ?_
        refine jsk ?_
        refine jy (y_pick_true rfl rfl) ?_
        refine jz ?_
        refine jpc (goes_func rfl) (fun w1 hw1 => fixed8_any w1) ?_
        refine jy (y_pick_true rfl rfl) ?_
        refine jz ?_
        refine jnt ?_
        refine jc_ret ?_
        refine jq_then_ret ?_
        refine jq_ret1 rfl rfl ?_
        exact fun _ hw => ⟨rfl, hw.ch⟩
        )
      ·first
       | (exfalso; omega)
       | (
        refine jz ?_
        refine jz ?_
        refine jy (y_eql rfl rfl) ?_
        refine jl_as (u := .bool true) (congrArg Value.bool (decide_eq_true (by first | exact worth_bad h31 | omega))) ?_
        refine jy (y_pick_false rfl rfl) ?_
        refine jz ?_
        refine jpc (goes_func rfl) (fun w1 hw1 => fixed8_any w1) ?_
        refine jy (y_pick_true rfl rfl) ?_
        refine jz ?_
        refine jnt ?_
        refine jc_ret ?_
        refine jq_then_ret ?_
        refine jq_ret1 rfl rfl ?_
        exact fun _ hw => ⟨rfl, hw.ch⟩
        )
      )
    ·first
     | (exfalso; omega)
     | (
      refine jy (y_pick_false rfl rfl) ?_
      refine jnt ?_
      refine jc_false rfl ?_
      refine jc_skip ?_
      refine jq_then ?_
      refine jc_seq ?_
      have hz0 : worthE (tmC t) (ctPf p) = 0 := Decidable.not_not.1 h31
      obtain ⟨⟨am, sg, tk, L⟩, hp⟩ : ∃ P, ctPf p = P := ⟨_, rfl⟩
      rw [hp] at hcf hlp hz0
      have e0 : (ctPf p).wins = L := congrArg Pf.wins hp
      rw [e0] at h36
      obtain ⟨l, x, hl⟩ := last_of (l := L) (by omega)
      subst hl
      have hll : (l ++ [x]).length = l.length + 1 := by simp
      have hll2 : ((⟨am, sg, tk, l ++ [x]⟩ : Pf)).wins.length = l.length + 1 := hll
      have hfx : x.Fit := hcf.wins x (List.mem_append_right _ (.head _))
      have hlf : ((⟨am, sg, tk, l⟩ : Pf)).Fit := ⟨hcf.amount, fun y hy => hcf.wins y (List.mem_append_left _ hy)⟩
      have hwl := worth_less (t := tmC t) (p := (⟨am, sg, tk, l ++ [x]⟩ : Pf)) (l := l) (x := x) hz0 rfl hfx.t.face.1 (q := (⟨am, sg, tk, l⟩ : Pf)) rfl
      have hsx : x.salt.size ≤ 1000000 := by have h1 := (wnMay_iff.1 ((pfRight_iff.1 (worth_zero.mp hz0).1).1 x (List.mem_append_right _ (.head _)))).2; omega
      have hfw := worth_fits htf hcf
      have hfl2 := worth_fits htf hlf
      simp only [fits] at hfw hfl2
      have hl6 : l.length ≤ 6 := by have h1 : (l ++ [x]).length ≤ 6 := hlp; omega
      refine jc_world (fun _ h => h.cast (H' := [.row q.1 (l ++ [x]).length q.2 26 10 ((l ++ [x]).flatMap Wn.c), .cells b3 (Pf.c (⟨am, sg, tk, l ++ [x]⟩ : Pf) q.1 q.2), .cells b2 (Tm.c (tmC t))]) (by rw [hp])) ?_
      refine jc_pure (p := (l ++ [x]).length ≤ q.2) (fun w h => row_cap (h.get mem0)) (fun hcap => ?_)
      refine jc_rebase (fun wx hbx => ?_)
      have hP : Old wx b3 0 (Pf.c (⟨am, sg, tk, l ++ [x]⟩ : Pf) q.1 q.2) := Old.of_cells (hbx.get mem1)
      have hT : Old wx b2 0 (Tm.c (tmC t)) := Old.of_cells (hbx.get mem2)
      have eP : ElAt wx q.1 10 ((l ++ [x]).map Wn.c) := ElAt.of_row wn_len rfl (hbx.get mem0)
      obtain ⟨bb, oo, ea, hold⟩ := eP.get (i := l.length) (by omega)
      rw [show (l ++ [x])[l.length] = x by simp] at hold
      have eL : ElAt wx q.1 10 (l.map Wn.c) := by have h1 := eP.take l.length; rwa [← List.map_take, List.take_left] at h1
      refine jc_region ?_
      refine jz ?_
      refine jy (y_load_old rfl (hP 3 _ rfl) (by simp)) ?_
      refine jl_as (u := .slice (some ⟨bb, oo, none⟩) (l ++ [x]).length q.2) (by rw [ea]) ?_
      refine jz ?_
      refine jy (y_load_old rfl (hP 3 _ rfl) (by simp)) ?_
      refine jy (y_len_slice rfl) ?_
      refine jy (y_sub_fits rfl rfl (by simp only [fits]; omega)) ?_
      refine jl_as (u := .int .i64 ((l.length : Nat) : Int)) (congrArg (Value.int .i64) (by omega)) ?_
      refine jy (y_indexAddr_slice (off := oo + l.length * 10) rfl rfl (by omega) (by omega) (by omega)) ?_
      refine jy (y_loadAgg_old rfl rfl hold (by simp)) ?_
      refine jl_m rfl (by decide) rfl (m_alloc) (fun b7 => ?_)
      refine jst ?_
      refine jnt ?_
      refine jc_seq ?_
      refine jc_sched 15 [(0, true), (1, true), (2, true), (3, true), (4, true), (5, true), (6, true), (7, true), (8, true), (9, true), (10, true), (11, true), (12, true), (13, true), (14, false)] rfl (by kernel_rfl) (fun _ _ _ _ h => h) (fun _ h => h.drew) ?_
      simp only [pickO, nthO, List.drop_succ_cons, List.drop_zero]
      refine jkz ?_
      refine jky (y_load_old rfl (hP 0 _ rfl) (by simp)) ?_
      refine jkz ?_
      refine jky (y_load_old rfl (hP 1 _ rfl) (by simp)) ?_
      refine jkz ?_
      refine jky (y_load_old rfl (hP 2 _ rfl) (by simp)) ?_
      refine jkz ?_
      refine jky (y_load_old rfl (hP 3 _ rfl) (by simp)) ?_
      refine jkz ?_
      refine jky (y_load_old rfl (hP 3 _ rfl) (by simp)) ?_
      refine jky (y_len_slice rfl) ?_
      refine jky (y_sub_fits rfl rfl (by simp only [fits]; omega)) ?_
      refine js_as (u := .int .i64 ((l.length : Nat) : Int)) (congrArg (Value.int .i64) (by omega)) ?_
      refine jky (y_sl_hi rfl rfl (by omega) (by omega)) ?_
      refine js_as (u := .slice q.1 l.length q.2) (by rw [Int.toNat_natCast]) ?_
      refine jky (y_build (Built.cell rfl rfl rfl (by repeat constructor) (Built.cell rfl rfl rfl (by repeat constructor) (Built.cell rfl rfl rfl (by repeat constructor) (Built.cell rfl rfl rfl (by repeat constructor) Built.nil))))) ?_
      refine js_m (by intros; rename_i h; first | exact h | exact h.pop | exact h.pop.pop | exact h.pop.pop.pop | exact h.pop.pop.pop.pop | exact h.pop.pop.pop.pop.pop | exact h.pop.pop.pop.pop.pop.pop | exact h.part .nil) rfl (by decide) rfl (m_alloc) (fun b8 => ?_)
      refine js_nil ?_
      refine jst ?_
      refine jnt ?_
      refine jsr ?_
      refine jy (y_loadAgg_old rfl rfl hT (by simp)) ?_
      refine jz ?_
      refine jpc (goes_func rfl) (fun w1 hw1 => worth_any (tmC t) (⟨am, sg, tk, l⟩ : Pf) q.1 q.2 w1 (eL.keep hw1) htf hlf (by show l.length ≤ 1000; omega) (by omega)) ?_
      refine jz ?_
      refine jz ?_
      refine jz ?_
      refine jz ?_
      refine jz ?_
      refine jnt ?_
      refine jsr ?_
      refine jz ?_
      refine jy (y_load_old rfl (hT 1 _ rfl) (by simp)) ?_
      refine jz ?_
      refine jpc (goes_func rfl) (fun w1 hw1 => won_any (tmC t).client x w1 hfx hsx) ?_
      refine jz ?_
      refine jz ?_
      refine jz ?_
      refine jz ?_
      refine jz ?_
      refine jnt ?_
      refine jsr ?_
      refine jz ?_
      refine jy (y_eql rfl rfl) ?_
      refine jl_as (u := .bool true) (congrArg Value.bool (decide_eq_true (hwl.1))) ?_
      refine jz ?_
      refine jz ?_
      refine jy (y_eql rfl rfl) ?_
      refine jl_as (u := .bool true) (congrArg Value.bool (decide_eq_true (hwl.2.1))) ?_
      refine jy (y_pick_true rfl rfl) ?_
      refine jz ?_
      refine jz ?_
      refine jz ?_
      refine jz ?_
      refine jz ?_
      refine jy (y_eql rfl rfl) ?_
      refine jl_as (u := .bool true) (congrArg Value.bool (decide_eq_true (by unfold wonV; rw [if_pos hwl.2.1]))) ?_
      refine jy (y_pick_true rfl rfl) ?_
      refine jz ?_
      refine jz ?_
      refine jz ?_
      refine jz ?_
      refine jy (y_add_u64 rfl rfl) ?_
      refine jy (y_eql rfl rfl) ?_
      refine jl_as (u := .bool true) (congrArg Value.bool (decide_eq_true (by rw [show wonV (tmC t).client x = x.t.face by unfold wonV; rw [if_pos hwl.2.1]]; have := hwl.2.2; have := hfx.t.face; rw [hp]; omega))) ?_
      refine jy (y_pick_true rfl rfl) ?_
      refine jz ?_
      refine jpc (goes_func rfl) (fun w1 hw1 => fixed8_any w1) ?_
      refine jy (y_pick_true rfl rfl) ?_
      refine jz ?_
      refine jnt ?_
      refine jc_ret ?_
      refine jq_ret1 rfl rfl ?_
      exact fun _ hw => ⟨rfl, (hbx.ch.then hw.ch)⟩
      )
    )
 ·skip
  refine jc_seq ?_
  refine jc_world (fun _ h => h.cast (H' := [.row q.1 (ctPf p).wins.length q.2 26 10 ((ctPf p).wins.flatMap Wn.c), .cells b3 (Pf.c (ctPf p) q.1 q.2), .cells b2 (Tm.c t)]) rfl) ?_
  refine jc_region ?_
  refine jz ?_
  refine jz ?_
  refine jy (y_gtr rfl rfl) ?_
  refine jl_prop (fun h17 => ?_) (fun h17 => ?_)
  ·first
   | (exfalso; omega)
   | (
    refine jz ?_
    refine jz ?_
    refine jz ?_
    refine jy (y_leq rfl rfl) ?_
    refine jl_prop (fun h21 => ?_) (fun h21 => ?_)
    ·first
     | (exfalso; omega)
     | (
      refine jy (y_pick_true rfl rfl) ?_
      refine jnt ?_
      refine jc_true rfl ?_
      refine jc_region ?_
      refine jz ?_
      refine jst ?_
      refine jl_nil ?_
      refine jq_join ?_ ?_
      ·exact ⟨rfl, rfl, trivial⟩
      ·first | exact fun _ h => h.cast (by rw [tmC_yes ⟨by omega, by omega⟩] <;> rfl) | exact fun _ h => h.cast (by rw [tmC_no (by omega)] <;> rfl)
      )
    ·first
     | (exfalso; omega)
     | (
      refine jy (y_pick_true rfl rfl) ?_
      refine jnt ?_
      refine jc_false rfl ?_
      refine jc_skip ?_
      refine jq_join ?_ ?_
      ·exact ⟨rfl, rfl, trivial⟩
      ·first | exact fun _ h => h.cast (by rw [tmC_yes ⟨by omega, by omega⟩] <;> rfl) | exact fun _ h => h.cast (by rw [tmC_no (by omega)] <;> rfl)
      )
    )
  ·first
   | (exfalso; omega)
   | (
    refine jz ?_
    refine jsk ?_
    refine jsk ?_
    refine jsk ?_
    refine jy (y_pick_false rfl rfl) ?_
    refine jnt ?_
    refine jc_false rfl ?_
    refine jc_skip ?_
    refine jq_join ?_ ?_
    ·exact ⟨rfl, rfl, trivial⟩
    ·first | exact fun _ h => h.cast (by rw [tmC_yes ⟨by omega, by omega⟩] <;> rfl) | exact fun _ h => h.cast (by rw [tmC_no (by omega)] <;> rfl)
    )

end Go.Proofs.YtddpoigfliaklaaGreat