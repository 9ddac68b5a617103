/- The walk of CoinTells. Written by program (walk.py) out of a table of contracts and invariants. -/
import Derived.Test.YtamlleachfngeaaCj
import Derived.Test.YtamlleachfngeaaMrtd
import Derived.Test.YtamlleachfngeaaJu
namespace Go.Proofs.Ytamlleachfngeaa
open Go.RowKit
set_option maxRecDepth 100000
set_option maxHeartbeats 4000000
set_option linter.unusedVariables false
set_option linter.unusedSimpArgs false
theorem cuttx2 (t : Trx) (a1 : Option Addr) (c1 : Nat) (a2 : Option Addr) (c2 : Nat) (a3 : Option Addr) (c3 : Nat) (w : World) (h1 : ElAt w a1 4 ((ctTx t).ins.map Inp.c)) (h2 : ElAt w a2 9 ((ctTx t).outs.map Oup.c)) (h3 : ElAt w a3 10 ((ctTx t).pf.wins.map Wn.c)) :
    Calls Try.prog 13 #[.agg (Trx.c (ctTx t) a1 c1 a2 c2 a3 c3).toArray] w fun e w' => ∃ pr : (Option Addr × Nat) × (Option Addr × Nat) × (Option Addr × Nat), e = .returned (.agg (Trx.c (ctTx t) pr.1.1 pr.1.2 pr.2.1.1 pr.2.1.2 pr.2.2.1 pr.2.2.2).toArray) ∧ Hp w [] [.row pr.1.1 (ctTx t).ins.length pr.1.2 55 4 ((ctTx t).ins.flatMap Inp.c), .row pr.2.1.1 (ctTx t).outs.length pr.2.1.2 58 9 ((ctTx t).outs.flatMap Oup.c), .row pr.2.2.1 (ctTx t).pf.wins.length pr.2.2.2 101 10 ((ctTx t).pf.wins.flatMap Wn.c)] w' := by
  have h := cuttx_any (ctTx t) a1 c1 a2 c2 a3 c3 w h1 h2 h3
  rw [ctTx_ct] at h
  exact h
theorem rep6 {A A' B C D F G K : HA} {H : List HA} : Rep A A' (B :: C :: D :: F :: G :: K :: A :: H) (B :: C :: D :: F :: G :: K :: A' :: H) := .tail rep5
theorem rep7 {A A' B C D F G K L : HA} {H : List HA} : Rep A A' (B :: C :: D :: F :: G :: K :: L :: A :: H) (B :: C :: D :: F :: G :: K :: L :: A' :: H) := .tail rep6
theorem strip_eq (t : Trx) : (⟨sgN ⟨#[]⟩ t.ins t.ins.length, t.outs, pf0⟩ : Trx) = strip t := by unfold strip; rw [sgN_all]; rfl

theorem coinTells_any (t : Trx) (a1 : Option Addr) (c1 : Nat) (a2 : Option Addr) (c2 : Nat) (a3 : Option Addr) (c3 : Nat) (u : Trx) (e1 : Option Addr) (d1 : Nat) (e2 : Option Addr) (d2 : Nat) (e3 : Option Addr) (d3 : Nat) (w : World) (hf : t.Fit) (h1 : ElAt w a1 4 (t.ins.map Inp.c)) (h2 : ElAt w a2 9 (t.outs.map Oup.c)) (h3 : ElAt w a3 10 (t.pf.wins.map Wn.c)) (hg : u.Fit) (g1 : ElAt w e1 4 (u.ins.map Inp.c)) (g2 : ElAt w e2 9 (u.outs.map Oup.c)) (g3 : ElAt w e3 10 (u.pf.wins.map Wn.c)) :
    Calls Try.prog 6 #[.agg (Trx.c t a1 c1 a2 c2 a3 c3).toArray, .agg (Trx.c u e1 d1 e2 d2 e3 d3).toArray] w fun e w' => e = .returned (.bool true) ∧ Ch [] w w' := by
  have hcf := ctTx_fit hf
  have hcg := ctTx_fit hg
  have hlt6 := ctTx_len t
  have hlu6 := ctTx_len u
  refine calls_of (n := 66) (E := [(0, .agg (Trx.c t a1 c1 a2 c2 a3 c3).toArray), (1, .agg (Trx.c u e1 d1 e2 d2 e3 d3).toArray)]) (W := Hp w [] []) Try.func6 rfl rfl (Nat.le_of_ble_eq_true rfl) rfl (Hp.nil _ _) ?_
  refine jc_seq ?_
  -- region 0
  refine jc_region ?_
  refine jl_m rfl (by decide) rfl (m_box rfl rfl) (fun b2 => ?_)
  refine jl_m rfl (by decide) rfl (m_box rfl rfl) (fun b3 => ?_)
  refine jl_y rfl (by decide) rfl (y_assign rfl) ?_
  refine jl_nil ?_
  refine jq_then ?_
  refine jc_seq ?_
  -- region 1
  refine jc_region ?_
  first | refine jl_y rfl (by decide) rfl (y_loadAgg rfl (by first | exact mem0 | exact mem1 | exact mem2 | exact mem3 | exact mem4 | exact mem5) (by repeat constructor)) ?_ | refine jl_y rfl (by decide) rfl (y_loadAgg_row rfl (by first | exact mem0 | exact mem1 | exact mem2 | exact mem3 | exact mem4 | exact mem5) rfl (by assumption)) ?_ | refine jl_y rfl (by decide) rfl (y_loadAgg_old rfl rfl (by assumption) (by simp)) ?_
  refine jl_gcall3 rfl (by decide) rfl (goes_func rfl) (fun w1 hw1 => cuttx_any t a1 c1 a2 c2 a3 c3 w1 (h1.keep hw1) (h2.keep hw1) (h3.keep hw1)) (fun p => ?_)
  refine jl_w rfl rfl (w_storeAgg rfl rfl rfl rfl (by first | exact rep0 | exact rep1 | exact rep2 | exact rep3 | exact rep4 | exact rep5) (by repeat constructor)) ?_
  refine jl_nil ?_
  refine jq_then ?_
  refine jc_seq ?_
  -- region 2
  refine jc_world (fun _ h => h.part (F := [.cells b3 (Trx.c u e1 d1 e2 d2 e3 d3), .cells b2 (Trx.c (ctTx t) p.1.1 p.1.2 p.2.1.1 p.2.1.2 p.2.2.1 p.2.2.2), .row p.1.1 (ctTx t).ins.length p.1.2 55 4 ((ctTx t).ins.flatMap Inp.c), .row p.2.1.1 (ctTx t).outs.length p.2.1.2 58 9 ((ctTx t).outs.flatMap Oup.c), .row p.2.2.1 (ctTx t).pf.wins.length p.2.2.2 101 10 ((ctTx t).pf.wins.flatMap Wn.c)]) (.cons del3 (.cons del3 (.cons del0 (.cons del0 (.cons del0 .nil)))))) ?_
  refine jc_region ?_
  first | refine jl_y rfl (by decide) rfl (y_loadAgg rfl (by first | exact mem0 | exact mem1 | exact mem2 | exact mem3 | exact mem4 | exact mem5) (by repeat constructor)) ?_ | refine jl_y rfl (by decide) rfl (y_loadAgg_row rfl (by first | exact mem0 | exact mem1 | exact mem2 | exact mem3 | exact mem4 | exact mem5) rfl (by assumption)) ?_ | refine jl_y rfl (by decide) rfl (y_loadAgg_old rfl rfl (by assumption) (by simp)) ?_
  refine jl_gcall3 rfl (by decide) rfl (goes_func rfl) (fun w1 hw1 => cuttx_any u e1 d1 e2 d2 e3 d3 w1 (g1.keep hw1) (g2.keep hw1) (g3.keep hw1)) (fun q => ?_)
  refine jl_w rfl rfl (w_storeAgg rfl rfl rfl rfl (by first | exact rep0 | exact rep1 | exact rep2 | exact rep3 | exact rep4 | exact rep5) (by repeat constructor)) ?_
  refine jl_nil ?_
  refine jq_then ?_
  refine jc_seq ?_
  refine jc_seq ?_
  -- region 3
  refine jc_rebase (fun wx hbx => ?_)
  have hk : Old wx b2 0 (Trx.c (ctTx t) p.1.1 p.1.2 p.2.1.1 p.2.1.2 p.2.2.1 p.2.2.2) := Old.of_cells (hbx.get mem4)
  have k1 : ElAt wx p.1.1 4 ((ctTx t).ins.map Inp.c) := ElAt.of_row (fun _ => rfl) rfl (hbx.get mem5)
  have k2 : ElAt wx p.2.1.1 9 ((ctTx t).outs.map Oup.c) := ElAt.of_row (fun _ => rfl) rfl (hbx.get (.tail _ mem5))
  have k3 : ElAt wx p.2.2.1 10 ((ctTx t).pf.wins.map Wn.c) := ElAt.of_row (fun _ => rfl) rfl (hbx.get (.tail _ (.tail _ mem5)))
  have hm : Old wx b3 0 (Trx.c (ctTx u) q.1.1 q.1.2 q.2.1.1 q.2.1.2 q.2.2.1 q.2.2.2) := Old.of_cells (hbx.get mem3)
  have m1 : ElAt wx q.1.1 4 ((ctTx u).ins.map Inp.c) := ElAt.of_row (fun _ => rfl) rfl (hbx.get mem0)
  have m2 : ElAt wx q.2.1.1 9 ((ctTx u).outs.map Oup.c) := ElAt.of_row (fun _ => rfl) rfl (hbx.get mem1)
  have m3 : ElAt wx q.2.2.1 10 ((ctTx u).pf.wins.map Wn.c) := ElAt.of_row (fun _ => rfl) rfl (hbx.get mem2)
  replace g1 := g1.keep hbx
  replace g2 := g2.keep hbx
  replace g3 := g3.keep hbx
  rcases bool3 (txRight (ctTx t)) (txRight (ctTx u)) with hr | ⟨hr, hv⟩ | ⟨hr, hv⟩
  · skip
    -- region 3
    refine jc_region ?_
    refine jl_y rfl (by decide) rfl (y_loadAgg_old rfl rfl hk (by simp)) ?_
    refine jl_pcall rfl (by decide) rfl (goes_func rfl) (fun w1 hw1 => pcall hw1 (txright_any (ctTx t) p.1.1 p.1.2 p.2.1.1 p.2.1.2 p.2.2.1 p.2.2.2 w1 (k1.keep hw1) (k2.keep hw1) (k3.keep hw1) (by have := ctTx_len t; omega) (by have := ctTx_len t; omega) (by have := ctTx_len t; omega))) ?_
    refine jl_as (u := .bool false) (congrArg Value.bool (hr)) ?_
    refine jl_y rfl (by decide) rfl (y_not rfl) ?_
    refine jl_y rfl (by decide) rfl (y_move rfl) ?_
    refine jl_skip rfl (by decide) rfl ?_
    refine jl_skip rfl (by decide) rfl ?_
    refine jl_skip rfl (by decide) rfl ?_
    refine jl_y rfl (by decide) rfl (y_pick_true rfl rfl) ?_
    refine jl_nil ?_
    refine jq_then ?_
    refine jc_true rfl ?_
    refine jc_seq ?_
    -- region 4
    refine jc_region ?_
    refine jl_pcall rfl (by decide) rfl (goes_func rfl) (fun w1 hw1 => pcall hw1 (fixed9_any w1)) ?_
    refine jl_y rfl (by decide) rfl (y_assign rfl) ?_
    refine jl_nil ?_
    refine jq_then ?_
    refine jc_ret ?_
    refine jq_then_ret ?_
    refine jq_ret1 rfl rfl ?_
    exact fun _ hw => ⟨rfl, (hbx.ch.then hw.ch)⟩
  · skip
    -- region 3
    refine jc_region ?_
    refine jl_y rfl (by decide) rfl (y_loadAgg_old rfl rfl hk (by simp)) ?_
    refine jl_pcall rfl (by decide) rfl (goes_func rfl) (fun w1 hw1 => pcall hw1 (txright_any (ctTx t) p.1.1 p.1.2 p.2.1.1 p.2.1.2 p.2.2.1 p.2.2.2 w1 (k1.keep hw1) (k2.keep hw1) (k3.keep hw1) (by have := ctTx_len t; omega) (by have := ctTx_len t; omega) (by have := ctTx_len t; omega))) ?_
    refine jl_as (u := .bool true) (congrArg Value.bool (hr)) ?_
    refine jl_y rfl (by decide) rfl (y_not rfl) ?_
    refine jl_y rfl (by decide) rfl (y_move rfl) ?_
    refine jl_y rfl (by decide) rfl (y_loadAgg_old rfl rfl hm (by simp)) ?_
    refine jl_pcall rfl (by decide) rfl (goes_func rfl) (fun w1 hw1 => pcall hw1 (txright_any (ctTx u) q.1.1 q.1.2 q.2.1.1 q.2.1.2 q.2.2.1 q.2.2.2 w1 (m1.keep hw1) (m2.keep hw1) (m3.keep hw1) (by have := ctTx_len u; omega) (by have := ctTx_len u; omega) (by have := ctTx_len u; omega))) ?_
    refine jl_as (u := .bool false) (congrArg Value.bool (hv)) ?_
    refine jl_y rfl (by decide) rfl (y_not rfl) ?_
    refine jl_y rfl (by decide) rfl (y_pick_false rfl rfl) ?_
    refine jl_nil ?_
    refine jq_then ?_
    refine jc_true rfl ?_
    refine jc_seq ?_
    -- region 4
    refine jc_region ?_
    refine jl_pcall rfl (by decide) rfl (goes_func rfl) (fun w1 hw1 => pcall hw1 (fixed9_any w1)) ?_
    refine jl_y rfl (by decide) rfl (y_assign rfl) ?_
    refine jl_nil ?_
    refine jq_then ?_
    refine jc_ret ?_
    refine jq_then_ret ?_
    refine jq_ret1 rfl rfl ?_
    exact fun _ hw => ⟨rfl, (hbx.ch.then hw.ch)⟩
  · skip
    -- region 3
    refine jc_region ?_
    refine jl_y rfl (by decide) rfl (y_loadAgg_old rfl rfl hk (by simp)) ?_
    refine jl_pcall rfl (by decide) rfl (goes_func rfl) (fun w1 hw1 => pcall hw1 (txright_any (ctTx t) p.1.1 p.1.2 p.2.1.1 p.2.1.2 p.2.2.1 p.2.2.2 w1 (k1.keep hw1) (k2.keep hw1) (k3.keep hw1) (by have := ctTx_len t; omega) (by have := ctTx_len t; omega) (by have := ctTx_len t; omega))) ?_
    refine jl_as (u := .bool true) (congrArg Value.bool (hr)) ?_
    refine jl_y rfl (by decide) rfl (y_not rfl) ?_
    refine jl_y rfl (by decide) rfl (y_move rfl) ?_
    refine jl_y rfl (by decide) rfl (y_loadAgg_old rfl rfl hm (by simp)) ?_
    refine jl_pcall rfl (by decide) rfl (goes_func rfl) (fun w1 hw1 => pcall hw1 (txright_any (ctTx u) q.1.1 q.1.2 q.2.1.1 q.2.1.2 q.2.2.1 q.2.2.2 w1 (m1.keep hw1) (m2.keep hw1) (m3.keep hw1) (by have := ctTx_len u; omega) (by have := ctTx_len u; omega) (by have := ctTx_len u; omega))) ?_
    refine jl_as (u := .bool true) (congrArg Value.bool (hv)) ?_
    refine jl_y rfl (by decide) rfl (y_not rfl) ?_
    refine jl_y rfl (by decide) rfl (y_pick_false rfl rfl) ?_
    refine jl_nil ?_
    refine jq_then ?_
    refine jc_false rfl ?_
    refine jc_skip ?_
    refine jq_then ?_
    refine jc_seq ?_
    -- region 5
    refine jc_drop [] ?_
    refine jc_freeT 6 (by kernel_rfl) (by kernel_rfl) ?_
    simp only [List.take_succ_cons, List.take_zero, List.drop_succ_cons, List.drop_zero]
    refine jm_y [] rfl rfl (fun w1 hw1 => And.intro rfl (y_loadAgg_old rfl rfl (hk.keep hw1) (by simp))) ?_
    refine jm_gcall [0] rfl rfl (fun w1 hw1 => And.intro rfl ⟨_, _, goes_func rfl, cuttx2 t p.1.1 p.1.2 p.2.1.1 p.2.1.2 p.2.2.1 p.2.2.2 w1 (k1.keep hw1) (k2.keep hw1) (k3.keep hw1)⟩) ?_
    refine jm_y [] rfl rfl (fun w1 hw1 => And.intro rfl (y_loadAgg_old rfl rfl (hm.keep hw1) (by simp))) ?_
    refine jm_gcall [2] rfl rfl (fun w1 hw1 => And.intro rfl ⟨_, _, goes_func rfl, cuttx2 u q.1.1 q.1.2 q.2.1.1 q.2.1.2 q.2.2.1 q.2.2.2 w1 (m1.keep hw1) (m2.keep hw1) (m3.keep hw1)⟩) ?_
    refine jm_m [] rfl rfl (fun w1 hw1 => And.intro rfl (m_alloc)) ?_
    refine jm_m [] rfl rfl (fun w1 hw1 => And.intro rfl (m_alloc)) ?_
    refine jm_nil ?_
    simp only [Ends, List.cons_append, List.nil_append]
    intro b6 b5 yy xx
    refine jl_w rfl rfl (w_storeAgg rfl rfl rfl rfl (by first | exact rep6 | exact rep7) (by repeat constructor)) ?_
    refine jl_w rfl rfl (w_storeAgg rfl rfl rfl rfl (by first | exact rep6 | exact rep7) (by repeat constructor)) ?_
    refine jl_nil ?_
    refine jq_then ?_
    refine jc_seq ?_
    -- region 6
    obtain ⟨⟨x1, xc1⟩, ⟨x2, xc2⟩, ⟨x3, xc3⟩⟩ := xx
    obtain ⟨⟨y1, yc1⟩, ⟨y2, yc2⟩, ⟨y3, yc3⟩⟩ := yy
    refine jc_world (fun _ h => h.cast (H' := [.row x1 (ctTx t).ins.length xc1 55 4 ((sgN ⟨#[]⟩ (ctTx t).ins 0).flatMap Inp.c), .row x2 (ctTx t).outs.length xc2 58 9 ((ctTx t).outs.flatMap Oup.c), .row x3 (ctTx t).pf.wins.length xc3 101 10 ((ctTx t).pf.wins.flatMap Wn.c), .row y1 (ctTx u).ins.length yc1 55 4 ((sgN ⟨#[]⟩ (ctTx u).ins 0).flatMap Inp.c), .row y2 (ctTx u).outs.length yc2 58 9 ((ctTx u).outs.flatMap Oup.c), .row y3 (ctTx u).pf.wins.length yc3 101 10 ((ctTx u).pf.wins.flatMap Wn.c), .cells b5 (Trx.c (ctTx t) x1 xc1 x2 xc2 x3 xc3), .cells b6 (Trx.c (ctTx u) y1 yc1 y2 yc2 y3 yc3)]) rfl) ?_
    refine jc_region ?_
    refine jl_y rfl (by decide) rfl (y_build Built.nil) ?_
    refine jl_y rfl (by decide) rfl (y_fieldAddr_agg rfl) ?_
    refine jl_w rfl rfl (w_storeAgg rfl rfl rfl rfl rep6 (by repeat constructor)) ?_
    refine jl_nil ?_
    refine jq_then ?_
    refine jc_seq ?_
    -- region 7
    refine jc_region ?_
    refine jl_y rfl (by decide) rfl (y_build Built.nil) ?_
    refine jl_y rfl (by decide) rfl (y_fieldAddr_agg rfl) ?_
    refine jl_w rfl rfl (w_storeAgg rfl rfl rfl rfl rep7 (by repeat constructor)) ?_
    refine jl_nil ?_
    refine jq_then ?_
    refine jc_seq ?_
    refine jc_seq ?_
    -- region 8
    refine jc_world (fun _ h => h.part (F := [.cells b5 [.slice x1 (ctTx t).ins.length xc1, .slice x2 (ctTx t).outs.length xc2, .int .u64 0, .string ⟨#[]⟩, .string ⟨#[]⟩, .slice none 0 0], .row x1 (ctTx t).ins.length xc1 55 4 ((sgN ⟨#[]⟩ (ctTx t).ins 0).flatMap Inp.c), .row x2 (ctTx t).outs.length xc2 58 9 ((ctTx t).outs.flatMap Oup.c), .cells b6 [.slice y1 (ctTx u).ins.length yc1, .slice y2 (ctTx u).outs.length yc2, .int .u64 0, .string ⟨#[]⟩, .string ⟨#[]⟩, .slice none 0 0], .row y1 (ctTx u).ins.length yc1 55 4 ((sgN ⟨#[]⟩ (ctTx u).ins 0).flatMap Inp.c), .row y2 (ctTx u).outs.length yc2 58 9 ((ctTx u).outs.flatMap Oup.c)]) (.cons (.tail (.tail (.tail del3))) (.cons del0 (.cons del0 (.cons (.tail (.tail (.tail del1))) (.cons del1 (.cons del1 .nil))))))) ?_
    refine jc_region ?_
    refine jl_y rfl (by decide) rfl (y_assign rfl) ?_
    refine jl_nil ?_
    refine jq_then ?_
    refine jc_block ?_
    -- a loop
    refine jc_loop (fun (i : Nat) => [(2, .pointer (some ⟨b2, 0, none⟩)), (3, .pointer (some ⟨b3, 0, none⟩)), (5, .pointer (some ⟨b5, 0, none⟩)), (6, .pointer (some ⟨b6, 0, none⟩)), (7, .int .i64 (i : Nat))]) (fun (i : Nat) => fun w' => i ≤ (ctTx t).ins.length ∧ Hp wx [] [.cells b5 [.slice x1 (ctTx t).ins.length xc1, .slice x2 (ctTx t).outs.length xc2, .int .u64 0, .string ⟨#[]⟩, .string ⟨#[]⟩, .slice none 0 0], .row x1 (ctTx t).ins.length xc1 55 4 ((sgN ⟨#[]⟩ (ctTx t).ins i).flatMap Inp.c), .row x2 (ctTx t).outs.length xc2 58 9 ((ctTx t).outs.flatMap Oup.c), .cells b6 [.slice y1 (ctTx u).ins.length yc1, .slice y2 (ctTx u).outs.length yc2, .int .u64 0, .string ⟨#[]⟩, .string ⟨#[]⟩, .slice none 0 0], .row y1 (ctTx u).ins.length yc1 55 4 ((sgN ⟨#[]⟩ (ctTx u).ins 0).flatMap Inp.c), .row y2 (ctTx u).outs.length yc2 58 9 ((ctTx u).outs.flatMap Oup.c)] w') (fun (i : Nat) => (ctTx t).ins.length - i) 0 ?_ ?_ ?_
    · exact ⟨rfl, rfl, rfl, rfl, rfl, trivial⟩
    · exact fun _ h => ⟨by omega, h⟩
    · intro i
      refine jc_and (fun hi => ?_)
      refine jc_seq ?_
      refine jc_seq ?_
      -- region 9
      refine jc_region ?_
      refine jl_y rfl (by decide) rfl (y_move rfl) ?_
      refine jl_y rfl (by decide) rfl (y_fieldAddr rfl) ?_
      first | refine jl_y rfl (by decide) rfl (y_load rfl (by first | exact mem0 | exact mem1 | exact mem2 | exact mem3 | exact mem4 | exact mem5) rfl) ?_ | refine jl_y rfl (by decide) rfl (y_load_row rfl (by first | exact mem0 | exact mem1 | exact mem2 | exact mem3 | exact mem4 | exact mem5) rfl) ?_ | refine jl_y rfl (by decide) rfl (y_load_old rfl (by assumption) (by simp)) ?_
      refine jl_y rfl (by decide) rfl (y_len_slice rfl) ?_
      refine jl_y rfl (by decide) rfl (y_lss rfl rfl) ?_
      refine jl_prop (fun h34 => ?_) (fun h34 => ?_)
      · first
        | (exfalso; omega)
        | (
          refine jl_nil ?_
          refine jq_then ?_
          refine jc_true rfl ?_
          refine jc_skip ?_
          refine jq_then ?_
          refine jc_seq ?_
          refine jc_block ?_
          -- region 11
          have hlt : i < (ctTx t).ins.length := by omega
          refine jc_pure (p := ∃ b, x1 = some ⟨b, 0, none⟩) (fun w h => row_some (h.get (A := .row x1 (ctTx t).ins.length xc1 55 4 ((sgN ⟨#[]⟩ (ctTx t).ins i).flatMap Inp.c)) mem1) (by omega)) (fun hb => ?_)
          obtain ⟨bbx, rfl⟩ := hb
          refine jc_region ?_
          refine jl_y rfl (by decide) rfl (y_fieldAddr rfl) ?_
          first | refine jl_y rfl (by decide) rfl (y_load rfl (by first | exact mem0 | exact mem1 | exact mem2 | exact mem3 | exact mem4 | exact mem5) rfl) ?_ | refine jl_y rfl (by decide) rfl (y_load_row rfl (by first | exact mem0 | exact mem1 | exact mem2 | exact mem3 | exact mem4 | exact mem5) rfl) ?_ | refine jl_y rfl (by decide) rfl (y_load_old rfl (by assumption) (by simp)) ?_
          refine jl_y rfl (by decide) rfl (y_move rfl) ?_
          refine jl_y rfl (by decide) rfl (y_indexAddr_slice (off := i * 4) rfl rfl (by omega) (by omega) (by omega)) ?_
          refine jl_y rfl (by decide) rfl (y_fieldAddr rfl) ?_
          refine jl_w rfl rfl (w_store_row rfl rfl rfl (by rw [flat_length, sgN_length]; omega) rep1) ?_
          refine jl_nil ?_
          refine jq_block ?_
          refine jq_then ?_
          -- region 10
          refine jc_region ?_
          refine jl_y rfl (by decide) rfl (y_move rfl) ?_
          refine jl_y rfl (by decide) rfl (y_add_fits rfl rfl (by simp only [fits]; omega)) ?_
          refine jl_y rfl (by decide) rfl (y_assign rfl) ?_
          refine jl_nil ?_
          refine jq_round (i := i) (i + 1) ?_ ?_ ?_
          · omega
          · exact ⟨rfl, rfl, rfl, rfl, lk_int rfl (by omega), trivial⟩
          · exact fun _ h => ⟨by omega, h.cast (by rw [sgN_next hlt])⟩
          )
      · first
        | (exfalso; omega)
        | (
          refine jl_nil ?_
          refine jq_then ?_
          refine jc_false rfl ?_
          refine jc_exit ?_
          refine jq_then_exit ?_
          refine jq_then_exit ?_
          refine jq_hit ?_
          refine jq_then ?_
          refine jc_seq ?_
          refine jc_seq ?_
          -- region 12
          have hie : i = (ctTx t).ins.length := by omega
          subst hie
          refine jc_region ?_
          refine jl_y rfl (by decide) rfl (y_assign rfl) ?_
          refine jl_nil ?_
          refine jq_then ?_
          refine jc_block ?_
          -- a loop
          refine jc_loop (fun (j : Nat) => [(2, .pointer (some ⟨b2, 0, none⟩)), (3, .pointer (some ⟨b3, 0, none⟩)), (5, .pointer (some ⟨b5, 0, none⟩)), (6, .pointer (some ⟨b6, 0, none⟩)), (8, .int .i64 (j : Nat))]) (fun (j : Nat) => fun w' => j ≤ (ctTx u).ins.length ∧ Hp wx [] [.cells b5 [.slice x1 (ctTx t).ins.length xc1, .slice x2 (ctTx t).outs.length xc2, .int .u64 0, .string ⟨#[]⟩, .string ⟨#[]⟩, .slice none 0 0], .row x1 (ctTx t).ins.length xc1 55 4 ((sgN ⟨#[]⟩ (ctTx t).ins (ctTx t).ins.length).flatMap Inp.c), .row x2 (ctTx t).outs.length xc2 58 9 ((ctTx t).outs.flatMap Oup.c), .cells b6 [.slice y1 (ctTx u).ins.length yc1, .slice y2 (ctTx u).outs.length yc2, .int .u64 0, .string ⟨#[]⟩, .string ⟨#[]⟩, .slice none 0 0], .row y1 (ctTx u).ins.length yc1 55 4 ((sgN ⟨#[]⟩ (ctTx u).ins j).flatMap Inp.c), .row y2 (ctTx u).outs.length yc2 58 9 ((ctTx u).outs.flatMap Oup.c)] w') (fun (j : Nat) => (ctTx u).ins.length - j) 0 ?_ ?_ ?_
          · exact ⟨rfl, rfl, rfl, rfl, rfl, trivial⟩
          · exact fun _ h => ⟨by omega, h⟩
          · intro j
            refine jc_and (fun hj => ?_)
            refine jc_seq ?_
            refine jc_seq ?_
            -- region 13
            refine jc_region ?_
            refine jl_y rfl (by decide) rfl (y_move rfl) ?_
            refine jl_y rfl (by decide) rfl (y_fieldAddr rfl) ?_
            first | refine jl_y rfl (by decide) rfl (y_load rfl (by first | exact mem0 | exact mem1 | exact mem2 | exact mem3 | exact mem4 | exact mem5) rfl) ?_ | refine jl_y rfl (by decide) rfl (y_load_row rfl (by first | exact mem0 | exact mem1 | exact mem2 | exact mem3 | exact mem4 | exact mem5) rfl) ?_ | refine jl_y rfl (by decide) rfl (y_load_old rfl (by assumption) (by simp)) ?_
            refine jl_y rfl (by decide) rfl (y_len_slice rfl) ?_
            refine jl_y rfl (by decide) rfl (y_lss rfl rfl) ?_
            refine jl_prop (fun h46 => ?_) (fun h46 => ?_)
            · first
              | (exfalso; omega)
              | (
                refine jl_nil ?_
                refine jq_then ?_
                refine jc_true rfl ?_
                refine jc_skip ?_
                refine jq_then ?_
                refine jc_seq ?_
                refine jc_block ?_
                -- region 15
                have hlt : j < (ctTx u).ins.length := by omega
                refine jc_pure (p := ∃ b, y1 = some ⟨b, 0, none⟩) (fun w h => row_some (h.get (A := .row y1 (ctTx u).ins.length yc1 55 4 ((sgN ⟨#[]⟩ (ctTx u).ins j).flatMap Inp.c)) mem4) (by omega)) (fun hb => ?_)
                obtain ⟨bby, rfl⟩ := hb
                refine jc_region ?_
                refine jl_y rfl (by decide) rfl (y_fieldAddr rfl) ?_
                first | refine jl_y rfl (by decide) rfl (y_load rfl (by first | exact mem0 | exact mem1 | exact mem2 | exact mem3 | exact mem4 | exact mem5) rfl) ?_ | refine jl_y rfl (by decide) rfl (y_load_row rfl (by first | exact mem0 | exact mem1 | exact mem2 | exact mem3 | exact mem4 | exact mem5) rfl) ?_ | refine jl_y rfl (by decide) rfl (y_load_old rfl (by assumption) (by simp)) ?_
                refine jl_y rfl (by decide) rfl (y_move rfl) ?_
                refine jl_y rfl (by decide) rfl (y_indexAddr_slice (off := j * 4) rfl rfl (by omega) (by omega) (by omega)) ?_
                refine jl_y rfl (by decide) rfl (y_fieldAddr rfl) ?_
                refine jl_w rfl rfl (w_store_row rfl rfl rfl (by rw [flat_length, sgN_length]; omega) rep4) ?_
                refine jl_nil ?_
                refine jq_block ?_
                refine jq_then ?_
                -- region 14
                refine jc_region ?_
                refine jl_y rfl (by decide) rfl (y_move rfl) ?_
                refine jl_y rfl (by decide) rfl (y_add_fits rfl rfl (by simp only [fits]; omega)) ?_
                refine jl_y rfl (by decide) rfl (y_assign rfl) ?_
                refine jl_nil ?_
                refine jq_round (i := j) (j + 1) ?_ ?_ ?_
                · omega
                · exact ⟨rfl, rfl, rfl, rfl, lk_int rfl (by omega), trivial⟩
                · exact fun _ h => ⟨by omega, h.cast (by rw [sgN_next hlt])⟩
                )
            · first
              | (exfalso; omega)
              | (
                refine jl_nil ?_
                refine jq_then ?_
                refine jc_false rfl ?_
                refine jc_exit ?_
                refine jq_then_exit ?_
                refine jq_then_exit ?_
                refine jq_hit ?_
                refine jq_then ?_
                refine jc_seq ?_
                -- region 16
                have hje : j = (ctTx u).ins.length := by omega
                subst hje
                have e1 : (strip (ctTx t)).ins = sgN ⟨#[]⟩ (ctTx t).ins (ctTx t).ins.length := by rw [← strip_eq]
                have e2 : (strip (ctTx u)).ins = sgN ⟨#[]⟩ (ctTx u).ins (ctTx u).ins.length := by rw [← strip_eq]
                refine jc_world (fun _ h => h.cast (H' := [.cells b5 (Trx.c (strip (ctTx t)) x1 xc1 x2 xc2 none 0), .row x1 (strip (ctTx t)).ins.length xc1 55 4 ((strip (ctTx t)).ins.flatMap Inp.c), .row x2 (strip (ctTx t)).outs.length xc2 58 9 ((strip (ctTx t)).outs.flatMap Oup.c), .cells b6 (Trx.c (strip (ctTx u)) y1 yc1 y2 yc2 none 0), .row y1 (strip (ctTx u)).ins.length yc1 55 4 ((strip (ctTx u)).ins.flatMap Inp.c), .row y2 (strip (ctTx u)).outs.length yc2 58 9 ((strip (ctTx u)).outs.flatMap Oup.c)]) (by simp only [Trx.c, e1, e2, sgN_length]; rfl)) ?_
                refine jc_rebase (fun wy hby => ?_)
                have hr_ : Old wy b5 0 (Trx.c (strip (ctTx t)) x1 xc1 x2 xc2 none 0) := Old.of_cells (hby.get mem0)
                have r1 : ElAt wy x1 4 ((strip (ctTx t)).ins.map Inp.c) := ElAt.of_row (fun _ => rfl) rfl (hby.get mem1)
                have r2 : ElAt wy x2 9 ((strip (ctTx t)).outs.map Oup.c) := ElAt.of_row (fun _ => rfl) rfl (hby.get mem2)
                have hs_ : Old wy b6 0 (Trx.c (strip (ctTx u)) y1 yc1 y2 yc2 none 0) := Old.of_cells (hby.get mem3)
                have s1 : ElAt wy y1 4 ((strip (ctTx u)).ins.map Inp.c) := ElAt.of_row (fun _ => rfl) rfl (hby.get mem4)
                have s2 : ElAt wy y2 9 ((strip (ctTx u)).outs.map Oup.c) := ElAt.of_row (fun _ => rfl) rfl (hby.get mem5)
                replace g1 := g1.keep hby
                replace g2 := g2.keep hby
                replace g3 := g3.keep hby
                replace hk := hk.keep hby
                replace k1 := k1.keep hby
                replace k2 := k2.keep hby
                replace k3 := k3.keep hby
                replace hm := hm.keep hby
                replace m1 := m1.keep hby
                replace m2 := m2.keep hby
                replace m3 := m3.keep hby
                refine jc_drop [4] ?_
                refine jc_free (by kernel_rfl) Hp.stay ?_
                refine jn_y [] rfl rfl (fun w1 hw1 => And.intro rfl (y_loadAgg_old rfl rfl (hk.keep hw1) (by simp))) ?_
                refine jn_call [0] rfl rfl (fun w1 hw1 => And.intro rfl ⟨_, _, goes_func rfl, txcore_any (ctTx t) p.1.1 p.1.2 p.2.1.1 p.2.1.2 p.2.2.1 p.2.2.2 w1 (k1.keep hw1) (k2.keep hw1) (k3.keep hw1) (by have := ctTx_len t; omega) (by have := ctTx_len t; omega) (by have := ctTx_len t; omega) hcf⟩) ?_
                refine jn_y [] rfl rfl (fun w1 hw1 => And.intro rfl (y_loadAgg_old rfl rfl (hm.keep hw1) (by simp))) ?_
                refine jn_call [2] rfl rfl (fun w1 hw1 => And.intro rfl ⟨_, _, goes_func rfl, txcore_any (ctTx u) q.1.1 q.1.2 q.2.1.1 q.2.1.2 q.2.2.1 q.2.2.2 w1 (m1.keep hw1) (m2.keep hw1) (m3.keep hw1) (by have := ctTx_len u; omega) (by have := ctTx_len u; omega) (by have := ctTx_len u; omega) hcg⟩) ?_
                refine jn_y [1, 3] rfl rfl (fun w1 hw1 => And.intro rfl (y_seql rfl rfl)) ?_
                refine jn_y [] rfl rfl (fun w1 hw1 => And.intro rfl (y_loadAgg_old rfl rfl (hr_.keep hw1) (by simp))) ?_
                refine jn_y [] rfl rfl (fun w1 hw1 => And.intro rfl (y_loadAgg_old rfl rfl (hs_.keep hw1) (by simp))) ?_
                refine jn_call [5, 6] rfl rfl (fun w1 hw1 => And.intro rfl ⟨_, _, goes_func rfl, cosame_any (strip (ctTx t)) (strip (ctTx u)) x1 xc1 x2 xc2 none 0 y1 yc1 y2 yc2 none 0 w1 (r1.keep hw1) (r2.keep hw1) el_nil (s1.keep hw1) (s2.keep hw1) el_nil (by have := ctTx_len t; show (((ctTx t).ins.map inS).length) ≤ _; rw [List.length_map]; omega) (by have := ctTx_len t; show (ctTx t).outs.length ≤ _; omega) (Nat.zero_le _) (by have := ctTx_len u; show (((ctTx u).ins.map inS).length) ≤ _; rw [List.length_map]; omega) (by have := ctTx_len u; show (ctTx u).outs.length ≤ _; omega) (Nat.zero_le _)⟩) ?_
                refine jn_y [4, 7] rfl rfl (fun w1 hw1 => And.intro rfl (y_eql_bool rfl rfl)) ?_
                refine jn_as (u := .bool true) (congrArg Value.bool (by rw [core_iff hr hv hcf hcg]; exact beq_self_eq_true _)) ?_
                refine jn_y [8] rfl rfl (fun w1 hw1 => And.intro rfl (y_move rfl)) ?_
                refine jn_call [9] rfl rfl (fun w1 hw1 => And.intro rfl ⟨_, _, goes_func rfl, fixed9_any w1⟩) ?_
                refine jn_y [9, 10] rfl rfl (fun w1 hw1 => And.intro rfl (y_pick_true rfl rfl)) ?_
                refine jn_y [11] rfl rfl (fun w1 hw1 => And.intro rfl (y_assign rfl)) ?_
                refine jn_nil [12] (by decide) (fun w1 hw1 => jq_at hw1 ?_)
                refine jq_then ?_
                refine jc_ret ?_
                refine jq_ret1 rfl rfl ?_
                exact fun _ hw => ⟨rfl, (hbx.ch.then (hby.ch.then hw.ch))⟩
                )
          )

end Go.Proofs.Ytamlleachfngeaa