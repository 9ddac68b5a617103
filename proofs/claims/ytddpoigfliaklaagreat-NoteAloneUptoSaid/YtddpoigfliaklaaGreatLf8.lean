/- The walk of NoteAlone. Written by program (walk.py) out of a table of contracts and invariants. -/
import Derived.Test.YtddpoigfliaklaaGreatNf
import Derived.Test.YtddpoigfliaklaaGreatMwot
namespace Go.Proofs.YtddpoigfliaklaaGreat
open Go.RowKit
set_option maxRecDepth 100000
set_option maxHeartbeats 1000000
set_option linter.unusedVariables false
set_option linter.unusedSimpArgs false

theorem noteAlone_any (t : Tm) (p : Pf) (ad : Option Addr) (c : Nat) (u : Int) (w : World) (hg : t.Fit) (hf : p.Fit) (hE : ElAt w ad 10 (p.wins.map Wn.c)) (hu : fits .u64 u) (hz : t.chan.size ≤ 1048576) :
  Calls Tryz.prog 7 #[.agg (Tm.c t).toArray, .agg (Pf.c p ad c).toArray, .int .u64 u] w fun e w' => e = .returned (.bool true) ∧ Ch [] w w' := by
 obtain ⟨cx, hcx⟩ : ∃ cx, t.chan ++ ⟨#[120]⟩ = cx := ⟨_, rfl⟩
 have hxs : cx.size ≤ 1000000000 := by rw [← hcx, ByteArray.size_append, show (⟨#[120]⟩ : ByteArray).size = 1 from rfl]; omega
 have hcf := ctPf_fit hf
 have hlp := ctPf_len p
 have hpf : ((⟨(ctPf p).amount, (ctPf p).sig, ⟨#[]⟩, (ctPf p).wins⟩ : Pf)).Fit := ⟨hcf.amount, hcf.wins⟩
 have huf : ((⟨t.chan, t.client, ⟨#[]⟩, u, 0⟩ : Tm)).Fit := ⟨hu, (⟨by decide, by decide⟩ : fits .i64 0)⟩
 have hxf : ((⟨cx, t.client, t.anchor, t.unit, t.tokens⟩ : Tm)).Fit := ⟨hg.unit, hg.tokens⟩
 have hwa := worth_alone (t := t) (u := (⟨t.chan, t.client, ⟨#[]⟩, u, 0⟩ : Tm)) (p := (⟨(ctPf p).amount, (ctPf p).sig, ⟨#[]⟩, (ctPf p).wins⟩ : Pf)) rfl rfl rfl
 refine calls_of (n := 87) (E := [(0, .agg (Tm.c t).toArray), (1, .agg (Pf.c p ad c).toArray), (2, .int .u64 u)]) (W := Hp w [] []) Tryz.func7 rfl rfl (Nat.le_of_ble_eq_true rfl) rfl (Hp.nil _ _) ?_
 refine jsr ?_
 refine jl_m rfl (by decide) rfl (m_box rfl rfl) (fun b3 => ?_)
 refine jl_m rfl (by decide) rfl (m_box rfl rfl) (fun b4 => ?_)
 refine jz ?_
 refine jnt ?_
 refine jsr ?_
 refine jz ?_
 refine jl_fcall rfl (by decide) rfl (goes_func rfl) (fun w1 hw1 => cutpf_any p ad c w1 (hE.keep hw1)) (fun q => ?_)
 refine jst ?_
 refine jnt ?_
 refine jsr ?_
 refine jz ?_
 refine jst ?_
 refine jnt ?_
 refine jc_seq ?_
 refine jc_world (fun _ h => h.cast (H' := [.row q.1 (ctPf p).wins.length q.2 26 10 ((ctPf p).wins.flatMap Wn.c), .cells b4 (Pf.c (⟨(ctPf p).amount, (ctPf p).sig, ⟨#[]⟩, (ctPf p).wins⟩ : Pf) q.1 q.2), .cells b3 (Tm.c t)]) rfl) ?_
 refine jc_region ?_
 refine jz ?_
 refine jz ?_
 refine jpc (goes_func rfl) (fun w1 hw1 => worth_any t (⟨(ctPf p).amount, (ctPf p).sig, ⟨#[]⟩, (ctPf p).wins⟩ : Pf) q.1 q.2 w1 (ElAt.of_row wn_len rfl (hw1.get mem0)) hg hpf (by show (ctPf p).wins.length ≤ 1000; omega) (by omega)) ?_
 refine jz ?_
 refine jz ?_
 refine jz ?_
 refine jz ?_
 refine jz ?_
 refine jnt ?_
 refine jsr ?_
 refine jz ?_
 refine jl_m rfl (by decide) rfl (m_alloc) (fun b9 => ?_)
 refine jst ?_
 refine jnt ?_
 refine jsr ?_
 refine jz ?_
 refine jz ?_
 refine jst ?_
 refine jnt ?_
 refine jsr ?_
 refine jz ?_
 refine jst ?_
 refine jnt ?_
 refine jsr ?_
 refine jz ?_
 refine jst ?_
 refine jnt ?_
 refine jc_seq ?_
 refine jc_world (fun _ h => h.cast (H' := [.cells b9 (Tm.c (⟨t.chan, t.client, ⟨#[]⟩, u, 0⟩ : Tm)), .row q.1 (ctPf p).wins.length q.2 26 10 ((ctPf p).wins.flatMap Wn.c), .cells b4 (Pf.c (⟨(ctPf p).amount, (ctPf p).sig, ⟨#[]⟩, (ctPf p).wins⟩ : Pf) q.1 q.2), .cells b3 (Tm.c t)]) rfl) ?_
 refine jc_region ?_
 refine jz ?_
 refine jz ?_
 refine jpc (goes_func rfl) (fun w1 hw1 => worth_any (⟨t.chan, t.client, ⟨#[]⟩, u, 0⟩ : Tm) (⟨(ctPf p).amount, (ctPf p).sig, ⟨#[]⟩, (ctPf p).wins⟩ : Pf) q.1 q.2 w1 (ElAt.of_row wn_len rfl (hw1.get mem1)) huf hpf (by show (ctPf p).wins.length ≤ 1000; omega) (by show t.chan.size ≤ _; omega)) ?_
 refine jz ?_
 refine jz ?_
 refine jz ?_
 refine jz ?_
 refine jz ?_
 refine jnt ?_
 refine jc_seq ?_
 refine jsr ?_
 refine jz ?_
 refine jz ?_
 refine jy (y_neq rfl rfl) ?_
 refine jl_as (u := .bool false) (congrArg Value.bool (decide_eq_false (fun h => h hwa.2.symm))) ?_
 refine jz ?_
 refine jz ?_
 refine jz ?_
 refine jy (y_neq rfl rfl) ?_
 refine jl_as (u := .bool false) (congrArg Value.bool (decide_eq_false (fun h => h hwa.1.symm))) ?_
 refine jy (y_pick_false rfl rfl) ?_
 refine jnt ?_
 refine jc_false rfl ?_
 refine jc_skip ?_
 refine jq_then ?_
 refine jc_seq ?_
 refine jc_seq ?_
 refine jc_rebase (fun wx hbx => ?_)
 have hP : Old wx b4 0 (Pf.c (⟨(ctPf p).amount, (ctPf p).sig, ⟨#[]⟩, (ctPf p).wins⟩ : Pf) q.1 q.2) := Old.of_cells (hbx.get mem2)
 have hT : Old wx b3 0 (Tm.c t) := Old.of_cells (hbx.get mem3)
 have eP : ElAt wx q.1 10 ((ctPf p).wins.map Wn.c) := ElAt.of_row wn_len rfl (hbx.get mem1)
 refine jc_region ?_
 refine jz ?_
 refine jnt ?_
 refine jc_block ?_
 refine jc_loop (fun (i : Nat) => [(3, .pointer (some ⟨b3, 0, none⟩)), (4, .pointer (some ⟨b4, 0, none⟩)), (12, .int .i64 (i : Nat))]) (fun (i : Nat) => fun w' => i ≤ (ctPf p).wins.length ∧ Hp wx [] [] w') (fun (i : Nat) => (ctPf p).wins.length - i) 0 ?_ ?_ ?_
 ·exact ⟨rfl, rfl, rfl, trivial⟩
 ·exact fun _ h => ⟨by omega, h⟩
 ·intro i
  refine jc_and (fun hi => ?_)
  refine jc_seq ?_
  refine jsr ?_
  refine jz ?_
  refine jz ?_
  refine jy (y_load_old rfl (hP 3 _ rfl) (by simp)) ?_
  refine jl_as (u := .slice q.1 (ctPf p).wins.length q.2) rfl ?_
  refine jy (y_len_slice rfl) ?_
  refine jy (y_lss rfl rfl) ?_
  refine jl_prop (fun h48 => ?_) (fun h48 => ?_)
  ·first
   | (exfalso; omega)
   | (
    have hlt : i < (ctPf p).wins.length := by omega
    have hfx := hcf.wins _ (List.getElem_mem hlt)
    obtain ⟨bb, oo, ea, hold⟩ := eP.get hlt
    generalize hxe : (ctPf p).wins[i]'hlt = x at *
    have h1f : ((⟨0, ⟨#[]⟩, ⟨#[]⟩, [x]⟩ : Pf)).Fit := ⟨(⟨by decide, by decide⟩ : fits .u64 0), fun y hy => by rw [List.mem_singleton.1 hy]; exact hfx⟩
    have hwo := fun h => worth_other (t := (⟨cx, t.client, t.anchor, t.unit, t.tokens⟩ : Tm)) (x := x) h
    refine jnt ?_
    refine jc_true rfl ?_
    refine jc_skip ?_
    refine jq_then ?_
    refine jc_seq ?_
    refine jc_block ?_
    refine jsr ?_
    refine jy (y_loadAgg_old rfl rfl hT (by simp)) ?_
    refine jl_m rfl (by decide) rfl (m_alloc) (fun b13 => ?_)
    refine jst ?_
    refine jnt ?_
    refine jsr ?_
    refine jz ?_
    refine jy (y_load_old rfl (hT 0 _ rfl) (by simp)) ?_
    refine jy (y_concat rfl rfl (by rw [show (⟨#[120]⟩ : ByteArray).size = 1 from rfl]; omega)) ?_
    refine jl_as (u := .string cx) (congrArg Value.string hcx) ?_
    refine jz ?_
    refine jst ?_
    refine jnt ?_
    refine jc_seq ?_
    refine jc_world (fun _ h => h.cast (H' := [.cells b13 (Tm.c (⟨cx, t.client, t.anchor, t.unit, t.tokens⟩ : Tm))]) rfl) ?_
    refine jc_sched 13 [(0, true), (1, true), (2, true), (3, true), (4, true), (5, true), (6, false), (7, true), (8, false), (9, true), (10, true), (11, true), (12, true)] rfl (by kernel_rfl) (fun _ _ _ _ h => h) (fun _ h => h.drew) ?_
    simp only [pickO, nthO, List.drop_succ_cons, List.drop_zero]
    refine jkz ?_
    refine jkz ?_
    refine jky (y_load_old rfl (hP 3 _ rfl) (by simp)) ?_
    refine js_as (u := .slice (some ⟨bb, oo, none⟩) (ctPf p).wins.length q.2) (by rw [ea]) ?_
    refine jkz ?_
    refine jky (y_indexAddr_slice (off := oo + i * 10) rfl rfl (by omega) (by omega) (by omega)) ?_
    refine jky (y_loadAgg_old rfl rfl hold (by simp)) ?_
    refine js_m (by intros; rename_i h; first | exact h | exact h.pop | exact h.pop.pop | exact h.pop.pop.pop | exact h.pop.pop.pop.pop | exact h.pop.pop.pop.pop.pop | exact h.pop.pop.pop.pop.pop.pop | exact h.part .nil) rfl (by decide) rfl (m_buildSlice (size := 10) (by decide) (Built.agg rfl rfl rfl (by repeat constructor) Built.nil)) (fun b63 => ?_)
    refine jky (y_build (Built.cell rfl rfl rfl (by repeat constructor) Built.nil)) ?_
    refine js_pcall (by intro _ h; first | exact h | exact h.pop | exact h.pop.pop | exact h.pop.pop.pop | exact h.pop.pop.pop.pop | exact h.pop.pop.pop.pop.pop | exact h.pop.pop.pop.pop.pop.pop | exact h.part .nil) rfl (by decide) rfl (goes_func rfl) (fun w1 hw1 => pcall hw1 (worth_any (⟨cx, t.client, t.anchor, t.unit, t.tokens⟩ : Tm) (⟨0, ⟨#[]⟩, ⟨#[]⟩, [x]⟩ : Pf) (some ⟨b63, 0, none⟩) 1 w1 (ElAt.of_row (l := [x]) (c := Wn.c) (fun _ => rfl) rfl (hw1.get mem0)) hxf h1f (by show ([x] : List Wn).length ≤ 1000; simp) hxs)) ?_
    refine jkz ?_
    refine jkz ?_
    refine jkz ?_
    refine jkz ?_
    refine js_nil ?_
    refine jz ?_
    refine jnt ?_
    refine jc_seq ?_
    refine jc_draw (by kernel_rfl) (fun _ h => h.drew) ?_
    refine juz ?_
    refine juy (y_load_old rfl (hP 3 _ rfl) (by simp)) ?_
    refine ju_as (u := .slice (some ⟨bb, oo, none⟩) (ctPf p).wins.length q.2) (by rw [ea]) ?_
    refine juz ?_
    refine juy (y_indexAddr_slice (off := oo + i * 10) rfl rfl (by omega) (by omega) (by omega)) ?_
    refine juz ?_
    refine juz ?_
    refine juy (y_load_old rfl (hold 0 _ rfl) (by simp)) ?_
    refine juz ?_
    refine juz ?_
    refine juy (y_sneq rfl rfl) ?_
    refine ju_bool (fun h77 => ?_) (fun h77 => ?_)
    ·skip
     refine juz ?_
     refine juz ?_
     refine juy (y_neq rfl rfl) ?_
     refine ju_prop (fun h80 => ?_) (fun h80 => ?_)
     ·first
      | (exfalso; omega)
      | (
       refine juy (y_pick_true rfl rfl) ?_
       refine juz ?_
       refine juz ?_
       refine juy (y_neq rfl rfl) ?_
       refine ju_prop (fun h84 => ?_) (fun h84 => ?_)
       ·exfalso; have h9 := hwo (by simpa using h77); omega
       ·skip
        refine juy (y_pick_true rfl rfl) ?_
        refine ju_nil ?_
        refine jq_then ?_
        refine jc_false rfl ?_
        refine jc_skip ?_
        refine jq_block ?_
        refine jq_then ?_
        refine jc_region ?_
        refine jz ?_
        refine jy (y_add_fits rfl rfl (by simp only [fits]; omega)) ?_
        refine jz ?_
        refine jl_nil ?_
        refine jq_round (i := i) (i + 1) ?_ ?_ ?_
        ·omega
        ·exact ⟨rfl, rfl, lk_int rfl (by omega), trivial⟩
        ·exact fun _ h => ⟨by omega, h.part .nil⟩
       )
     ·first
      | (exfalso; omega)
      | (
       refine juy (y_pick_true rfl rfl) ?_
       refine juz ?_
       refine ju_skip rfl (by decide) rfl ?_
       refine ju_skip rfl (by decide) rfl ?_
       refine juy (y_pick_false rfl rfl) ?_
       refine ju_nil ?_
       refine jq_then ?_
       refine jc_false rfl ?_
       refine jc_skip ?_
       refine jq_block ?_
       refine jq_then ?_
       refine jc_region ?_
       refine jz ?_
       refine jy (y_add_fits rfl rfl (by simp only [fits]; omega)) ?_
       refine jz ?_
       refine jl_nil ?_
       refine jq_round (i := i) (i + 1) ?_ ?_ ?_
       ·omega
       ·exact ⟨rfl, rfl, lk_int rfl (by omega), trivial⟩
       ·exact fun _ h => ⟨by omega, h.part .nil⟩
       )
    ·skip
     refine juz ?_
     refine ju_skip rfl (by decide) rfl ?_
     refine ju_skip rfl (by decide) rfl ?_
     refine juy (y_pick_false rfl rfl) ?_
     refine juz ?_
     refine ju_skip rfl (by decide) rfl ?_
     refine ju_skip rfl (by decide) rfl ?_
     refine juy (y_pick_false rfl rfl) ?_
     refine ju_nil ?_
     refine jq_then ?_
     refine jc_false rfl ?_
     refine jc_skip ?_
     refine jq_block ?_
     refine jq_then ?_
     refine jc_region ?_
     refine jz ?_
     refine jy (y_add_fits rfl rfl (by simp only [fits]; omega)) ?_
     refine jz ?_
     refine jl_nil ?_
     refine jq_round (i := i) (i + 1) ?_ ?_ ?_
     ·omega
     ·exact ⟨rfl, rfl, lk_int rfl (by omega), trivial⟩
     ·exact fun _ h => ⟨by omega, h.part .nil⟩
    )
  ·first
   | (exfalso; omega)
   | (
    refine jnt ?_
    refine jc_false rfl ?_
    refine jc_exit ?_
    refine jq_then_exit ?_
    refine jq_then_exit ?_
    refine jq_hit ?_
    refine jq_then ?_
    refine jsr ?_
    refine jpc (goes_func rfl) (fun w1 hw1 => fixed8_any w1) ?_
    refine jz ?_
    refine jnt ?_
    refine jc_ret ?_
    refine jq_ret1 rfl rfl ?_
    exact fun _ hw => ⟨rfl, (hbx.ch.then hw.ch)⟩
    )

end Go.Proofs.YtddpoigfliaklaaGreat