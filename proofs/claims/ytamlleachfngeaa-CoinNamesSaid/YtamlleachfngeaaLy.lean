/- The walk of CoinNames. Written by program (walk.py) out of a table of contracts and invariants. -/
import Derived.Test.YtamlleachfngeaaCj
import Derived.Test.YtamlleachfngeaaMrtd
namespace Go.Proofs.Ytamlleachfngeaa
open Go.RowKit
set_option maxRecDepth 100000
set_option maxHeartbeats 4000000
set_option linter.unusedVariables false
set_option linter.unusedSimpArgs false

theorem coinNames_any (t : Trx) (a1 : Option Addr) (c1 : Nat) (a2 : Option Addr) (c2 : Nat) (a3 : Option Addr) (c3 : Nat) (sig : ByteArray) (pf : Pf) (a : Option Addr) (c : Nat) (w : World) (hf : t.Fit) (h1 : ElAt w a1 4 (t.ins.map Inp.c)) (h2 : ElAt w a2 9 (t.outs.map Oup.c)) (h3 : ElAt w a3 10 (t.pf.wins.map Wn.c)) (hpf : pf.Fit) (h4 : ElAt w a 10 (pf.wins.map Wn.c)) :
    Calls Try.prog 5 #[.agg (Trx.c t a1 c1 a2 c2 a3 c3).toArray, .string sig, .agg (Pf.c pf a c).toArray] w fun e w' => e = .returned (.bool true) ∧ Ch [] w w' := by
  have hcf := ctTx_fit hf
  have hln := ctTx_len t
  refine calls_of (n := 72) (E := [(0, .agg (Trx.c t a1 c1 a2 c2 a3 c3).toArray), (1, .string sig), (2, .agg (Pf.c pf a c).toArray)]) (W := Hp w [] []) Try.func5 rfl rfl (Nat.le_of_ble_eq_true rfl) rfl (Hp.nil _ _) ?_
  refine jc_seq ?_
  -- region 0
  refine jc_region ?_
  refine jl_m rfl (by decide) rfl (m_box rfl rfl) (fun b3 => ?_)
  refine jl_m rfl (by decide) rfl (m_box rfl rfl) (fun b5 => ?_)
  refine jl_y rfl (by decide) rfl (y_assign rfl) ?_
  refine jl_nil ?_
  refine jq_then ?_
  refine jc_seq ?_
  -- region 1
  refine jc_region ?_
  first | refine jl_y rfl (by decide) rfl (y_loadAgg rfl (by first | exact mem0 | exact mem1 | exact mem2 | exact mem3 | exact mem4 | exact mem5) (by repeat constructor)) ?_ | refine jl_y rfl (by decide) rfl (y_loadAgg_row rfl (by first | exact mem0 | exact mem1 | exact mem2 | exact mem3 | exact mem4 | exact mem5) rfl (by assumption)) ?_ | refine jl_y rfl (by decide) rfl (y_loadAgg_old rfl rfl (by assumption) (by simp)) ?_
  refine jl_gcall3 rfl (by decide) rfl (goes_func rfl) (fun w1 hw1 => cuttx_any t a1 c1 a2 c2 a3 c3 w1 (h1.keep hw1) (h2.keep hw1) (h3.keep hw1)) (fun p => ?_)
  refine jl_w rfl rfl (w_storeAgg rfl rfl rfl rfl (by first | exact rep0 | exact rep1 | exact rep2 | exact rep3 | exact rep4 | exact rep5) (by repeat constructor)) ?_
  refine jl_nil ?_
  refine jq_then ?_
  refine jc_seq ?_
  -- region 2
  refine jc_world (fun _ h => h.cast (H' := [.row p.1.1 (ctTx t).ins.length p.1.2 55 4 ((ctTx t).ins.flatMap Inp.c), .row p.2.1.1 (ctTx t).outs.length p.2.1.2 58 9 ((ctTx t).outs.flatMap Oup.c), .row p.2.2.1 (ctTx t).pf.wins.length p.2.2.2 101 10 ((ctTx t).pf.wins.flatMap Wn.c), .cells b5 (Pf.c pf a c), .cells b3 (Trx.c (ctTx t) p.1.1 p.1.2 p.2.1.1 p.2.1.2 p.2.2.1 p.2.2.2)]) rfl) ?_
  refine jc_world (fun _ h => h.part (F := [.row p.1.1 (ctTx t).ins.length p.1.2 55 4 ((ctTx t).ins.flatMap Inp.c), .row p.2.1.1 (ctTx t).outs.length p.2.1.2 58 9 ((ctTx t).outs.flatMap Oup.c), .row p.2.2.1 (ctTx t).pf.wins.length p.2.2.2 101 10 ((ctTx t).pf.wins.flatMap Wn.c), .cells b3 (Trx.c (ctTx t) p.1.1 p.1.2 p.2.1.1 p.2.1.2 p.2.2.1 p.2.2.2), .cells b5 (Pf.c pf a c)]) (.cons del0 (.cons del0 (.cons del0 (.cons del1 (.cons del0 .nil)))))) ?_
  refine jc_rebase (fun wx hbx => ?_)
  have hk : Old wx b3 0 (Trx.c (ctTx t) p.1.1 p.1.2 p.2.1.1 p.2.1.2 p.2.2.1 p.2.2.2) := Old.of_cells (hbx.get mem3)
  have k1 : ElAt wx p.1.1 4 ((ctTx t).ins.map Inp.c) := ElAt.of_row (fun _ => rfl) rfl (hbx.get mem0)
  have k2 : ElAt wx p.2.1.1 9 ((ctTx t).outs.map Oup.c) := ElAt.of_row (fun _ => rfl) rfl (hbx.get mem1)
  have k3 : ElAt wx p.2.2.1 10 ((ctTx t).pf.wins.map Wn.c) := ElAt.of_row (fun _ => rfl) rfl (hbx.get mem2)
  have h5 : Old wx b5 0 (Pf.c pf a c) := Old.of_cells (hbx.get mem4)
  replace h4 := h4.keep hbx
  refine jc_region ?_
  refine jl_y rfl (by decide) rfl (y_loadAgg_old rfl rfl hk (by simp)) ?_
  refine jl_gcall3 rfl (by decide) rfl (goes_func rfl) (fun w1 hw1 => cuttx_any (ctTx t) p.1.1 p.1.2 p.2.1.1 p.2.1.2 p.2.2.1 p.2.2.2 w1 (k1.keep hw1) (k2.keep hw1) (k3.keep hw1)) (fun q => ?_)
  refine jl_as (u := .agg (Trx.c (ctTx t) q.1.1 q.1.2 q.2.1.1 q.2.1.2 q.2.2.1 q.2.2.2).toArray) (by rw [ctTx_ct]) ?_
  refine jl_m rfl (by decide) rfl (m_alloc) (fun b7 => ?_)
  refine jl_w rfl rfl (w_storeAgg rfl rfl rfl rfl (by first | exact rep0 | exact rep1 | exact rep2 | exact rep3 | exact rep4 | exact rep5) (by repeat constructor)) ?_
  refine jl_nil ?_
  refine jq_then ?_
  refine jc_seq ?_
  -- region 3
  obtain ⟨⟨y1, z1⟩, ⟨y2, z2⟩, ⟨y3, z3⟩⟩ := q
  refine jc_world (fun _ h => h.cast (H' := [.cells b7 (Trx.c (ctTx t) y1 z1 y2 z2 y3 z3), .row y1 (ctTx t).ins.length z1 55 4 ((sgN (cutS sig 400) (ctTx t).ins 0).flatMap Inp.c), .row y2 (ctTx t).outs.length z2 58 9 ((ctTx t).outs.flatMap Oup.c), .row y3 (ctTx t).pf.wins.length z3 101 10 ((ctTx t).pf.wins.flatMap Wn.c)]) (by rw [ctTx_ct]; rfl)) ?_
  refine jc_region ?_
  refine jl_y rfl (by decide) rfl (y_loadAgg_old rfl rfl h5 (by simp)) ?_
  refine jl_fcall rfl (by decide) rfl (goes_func rfl) (fun w1 hw1 => cutpf_any pf a c w1 (h4.keep hw1)) (fun pq => ?_)
  refine jl_y rfl (by decide) rfl (y_fieldAddr_agg rfl) ?_
  refine jl_w rfl rfl (w_storeAgg rfl rfl rfl rfl (by first | exact rep0 | exact rep1 | exact rep2 | exact rep3 | exact rep4 | exact rep5) (by repeat constructor)) ?_
  refine jl_nil ?_
  refine jq_then ?_
  refine jc_seq ?_
  refine jc_seq ?_
  -- region 4
  refine jc_world (fun _ h => h.cast (H' := [.row pq.1 (ctPf pf).wins.length pq.2 101 10 ((ctPf pf).wins.flatMap Wn.c), .cells b7 [.slice y1 (ctTx t).ins.length z1, .slice y2 (ctTx t).outs.length z2, .int .u64 (ctPf pf).amount, .string (ctPf pf).sig, .string (ctPf pf).token, .slice pq.1 (ctPf pf).wins.length pq.2], .row y1 (ctTx t).ins.length z1 55 4 ((sgN (cutS sig 400) (ctTx t).ins 0).flatMap Inp.c), .row y2 (ctTx t).outs.length z2 58 9 ((ctTx t).outs.flatMap Oup.c), .row y3 (ctTx t).pf.wins.length z3 101 10 ((ctTx t).pf.wins.flatMap Wn.c)]) rfl) ?_
  refine jc_world (fun _ h => h.part (F := [.cells b7 [.slice y1 (ctTx t).ins.length z1, .slice y2 (ctTx t).outs.length z2, .int .u64 (ctPf pf).amount, .string (ctPf pf).sig, .string (ctPf pf).token, .slice pq.1 (ctPf pf).wins.length pq.2], .row y1 (ctTx t).ins.length z1 55 4 ((sgN (cutS sig 400) (ctTx t).ins 0).flatMap Inp.c), .row y2 (ctTx t).outs.length z2 58 9 ((ctTx t).outs.flatMap Oup.c), .row pq.1 (ctPf pf).wins.length pq.2 101 10 ((ctPf pf).wins.flatMap Wn.c)]) (.cons del1 (.cons del1 (.cons del1 (.cons del0 .nil))))) ?_
  refine jc_region ?_
  refine jl_y rfl (by decide) rfl (y_assign rfl) ?_
  refine jl_nil ?_
  refine jq_then ?_
  refine jc_block ?_
  -- a loop
  refine jc_loop (fun (i : Nat) => [(1, .string sig), (3, .pointer (some ⟨b3, 0, none⟩)), (7, .pointer (some ⟨b7, 0, none⟩)), (8, .int .i64 (i : Nat))]) (fun (i : Nat) => fun w' => i ≤ (ctTx t).ins.length ∧ Hp wx [] [.cells b7 [.slice y1 (ctTx t).ins.length z1, .slice y2 (ctTx t).outs.length z2, .int .u64 (ctPf pf).amount, .string (ctPf pf).sig, .string (ctPf pf).token, .slice pq.1 (ctPf pf).wins.length pq.2], .row y1 (ctTx t).ins.length z1 55 4 ((sgN (cutS sig 400) (ctTx t).ins i).flatMap Inp.c), .row y2 (ctTx t).outs.length z2 58 9 ((ctTx t).outs.flatMap Oup.c), .row pq.1 (ctPf pf).wins.length pq.2 101 10 ((ctPf pf).wins.flatMap Wn.c)] w') (fun (i : Nat) => (ctTx t).ins.length - i) 0 ?_ ?_ ?_
  · exact ⟨rfl, rfl, rfl, rfl, trivial⟩
  · exact fun _ h => ⟨by omega, h⟩
  · intro i
    refine jc_and (fun hi => ?_)
    refine jc_seq ?_
    refine jc_seq ?_
    -- region 5
    refine jc_region ?_
    refine jl_y rfl (by decide) rfl (y_move rfl) ?_
    refine jl_y rfl (by decide) rfl (y_fieldAddr rfl) ?_
    first | refine jl_y rfl (by decide) rfl (y_load rfl (by first | exact mem0 | exact mem1 | exact mem2 | exact mem3 | exact mem4 | exact mem5) rfl) ?_ | refine jl_y rfl (by decide) rfl (y_load_row rfl (by first | exact mem0 | exact mem1 | exact mem2 | exact mem3 | exact mem4 | exact mem5) rfl) ?_ | refine jl_y rfl (by decide) rfl (y_load_old rfl (by assumption) (by simp)) ?_
    refine jl_y rfl (by decide) rfl (y_len_slice rfl) ?_
    refine jl_y rfl (by decide) rfl (y_lss rfl rfl) ?_
    refine jl_prop (fun h20 => ?_) (fun h20 => ?_)
    · first
      | (exfalso; omega)
      | (
        refine jl_nil ?_
        refine jq_then ?_
        refine jc_true rfl ?_
        refine jc_skip ?_
        refine jq_then ?_
        refine jc_seq ?_
        refine jc_block ?_
        -- region 7
        have hlt : i < (ctTx t).ins.length := by omega
        refine jc_pure (p := ∃ b, y1 = some ⟨b, 0, none⟩) (fun w h => row_some (h.get (A := .row y1 (ctTx t).ins.length z1 55 4 ((sgN (cutS sig 400) (ctTx t).ins i).flatMap Inp.c)) mem1) (by omega)) (fun hb => ?_)
        obtain ⟨bb, rfl⟩ := hb
        refine jc_tail 10 (by kernel_rfl) (fun _ h => h.drew) ?_
        simp only [List.take_succ_cons, List.take_zero, List.drop_succ_cons, List.drop_zero]
        refine jt_y rfl (by decide) rfl (y_fieldAddr rfl) ?_
        first | refine jt_y rfl (by decide) rfl (y_load rfl (by first | exact mem0 | exact mem1 | exact mem2 | exact mem3 | exact mem4 | exact mem5) rfl) ?_ | refine jt_y rfl (by decide) rfl (y_load_row rfl (by first | exact mem0 | exact mem1 | exact mem2 | exact mem3 | exact mem4 | exact mem5) rfl) ?_ | refine jt_y rfl (by decide) rfl (y_load_old rfl (by assumption) (by simp)) ?_
        refine jt_y rfl (by decide) rfl (y_move rfl) ?_
        refine jt_y rfl (by decide) rfl (y_move rfl) ?_
        refine jt_y rfl (by decide) rfl (y_move rfl) ?_
        refine jt_y rfl (by decide) rfl (y_len_str rfl) ?_
        refine jt_y rfl (by decide) rfl (y_min rfl rfl) ?_
        refine jt_y rfl (by decide) rfl (y_substr_hi rfl rfl (by omega) (by omega)) ?_
        refine jt_as (congrArg Value.string (cut_eq _ 400)) ?_
        refine jt_y rfl (by decide) rfl (y_indexAddr_slice (off := i * 4) rfl rfl (by omega) (by omega) (by omega)) ?_
        refine jt_y rfl (by decide) rfl (y_fieldAddr rfl) ?_
        refine jt_nil ?_
        refine jl_w rfl rfl (w_store_row rfl rfl rfl (by rw [flat_length, sgN_length]; omega) rep1) ?_
        refine jl_nil ?_
        refine jq_block ?_
        refine jq_then ?_
        -- region 6
        refine jc_region ?_
        refine jl_y rfl (by decide) rfl (y_move rfl) ?_
        refine jl_y rfl (by decide) rfl (y_add_fits rfl rfl (by simp only [fits]; omega)) ?_
        refine jl_y rfl (by decide) rfl (y_assign rfl) ?_
        refine jl_nil ?_
        refine jq_round (i := i) (i + 1) ?_ ?_ ?_
        · omega
        · exact ⟨rfl, rfl, rfl, lk_int rfl (by omega), trivial⟩
        · exact fun _ h => ⟨by omega, h.cast (by rw [sgN_next hlt])⟩
        )
    · first
      | (exfalso; omega)
      | (
        refine jl_nil ?_
        refine jq_then ?_
        refine jc_false rfl ?_
        refine jc_exit ?_
        refine jq_then_exit ?_
        refine jq_then_exit ?_
        refine jq_hit ?_
        refine jq_then ?_
        refine jc_seq ?_
        refine jc_seq ?_
        -- region 8
        have hie : i = (ctTx t).ins.length := by omega
        subst hie
        obtain ⟨U, hU⟩ : ∃ U : Trx, (⟨sgN (cutS sig 400) (ctTx t).ins (ctTx t).ins.length, (ctTx t).outs, ctPf pf⟩ : Trx) = U := ⟨_, rfl⟩
        have hUi : U.ins = sgN (cutS sig 400) (ctTx t).ins (ctTx t).ins.length := by rw [← hU]
        have hUo : U.outs = (ctTx t).outs := by rw [← hU]
        have hUp : U.pf = ctPf pf := by rw [← hU]
        have hUl : U.ins.length = (ctTx t).ins.length := by rw [hUi, sgN_length]
        have hUf : U.Fit := by rw [← hU]; exact ⟨sgN_fit hcf.ins, hcf.outs, ctPf_fit hpf⟩
        have hUs : (ctTx t).ins.map inS = U.ins.map inS := by rw [hUi, sgN_strip]
        have hul : U.ins.length ≤ 6 ∧ U.outs.length ≤ 6 ∧ U.pf.wins.length ≤ 6 := by rw [hUl, hUo, hUp]; have := ctTx_len t; have := (ctTx_len ⟨[], [], pf⟩).2.2; exact ⟨by omega, by omega, this⟩
        refine jc_world (fun _ h => h.cast (H' := [.cells b7 (Trx.c U y1 z1 y2 z2 pq.1 pq.2), .row y1 U.ins.length z1 55 4 (U.ins.flatMap Inp.c), .row y2 U.outs.length z2 58 9 (U.outs.flatMap Oup.c), .row pq.1 U.pf.wins.length pq.2 101 10 (U.pf.wins.flatMap Wn.c)]) (by simp only [Trx.c, hUl, hUo, hUp]; rw [hUi])) ?_
        clear hU
        refine jc_rebase (fun wy hby => ?_)
        have hu : Old wy b7 0 (Trx.c U y1 z1 y2 z2 pq.1 pq.2) := Old.of_cells (hby.get mem0)
        have u1 : ElAt wy y1 4 (U.ins.map Inp.c) := ElAt.of_row (fun _ => rfl) rfl (hby.get mem1)
        have u2 : ElAt wy y2 9 (U.outs.map Oup.c) := ElAt.of_row (fun _ => rfl) rfl (hby.get mem2)
        have u3 : ElAt wy pq.1 10 (U.pf.wins.map Wn.c) := ElAt.of_row (fun _ => rfl) rfl (hby.get mem3)
        replace h4 := h4.keep hby
        replace hk := hk.keep hby
        replace k1 := k1.keep hby
        replace k2 := k2.keep hby
        replace k3 := k3.keep hby
        replace h5 := h5.keep hby
        rcases bool3 (txRight (ctTx t)) (txRight U) with hr | ⟨hr, hv⟩ | ⟨hr, hv⟩
        · skip
          -- region 8
          refine jc_region ?_
          refine jl_y rfl (by decide) rfl (y_loadAgg_old rfl rfl hk (by simp)) ?_
          refine jl_pcall rfl (by decide) rfl (goes_func rfl) (fun w1 hw1 => pcall hw1 (txright_any (ctTx t) p.1.1 p.1.2 p.2.1.1 p.2.1.2 p.2.2.1 p.2.2.2 w1 (k1.keep hw1) (k2.keep hw1) (k3.keep hw1) (by have := ctTx_len t; omega) (by have := ctTx_len t; omega) (by have := ctTx_len t; omega))) ?_
          refine jl_as (u := .bool false) (congrArg Value.bool (hr)) ?_
          refine jl_y rfl (by decide) rfl (y_not rfl) ?_
          refine jl_y rfl (by decide) rfl (y_move rfl) ?_
          refine jl_skip rfl (by decide) rfl ?_
          refine jl_skip rfl (by decide) rfl ?_
          refine jl_skip rfl (by decide) rfl ?_
          refine jl_y rfl (by decide) rfl (y_pick_true rfl rfl) ?_
          refine jl_nil ?_
          refine jq_then ?_
          refine jc_true rfl ?_
          refine jc_seq ?_
          -- region 9
          refine jc_region ?_
          refine jl_y rfl (by decide) rfl (y_loadAgg_old rfl rfl hk (by simp)) ?_
          refine jl_pcall rfl (by decide) rfl (goes_func rfl) (fun w1 hw1 => pcall hw1 (txright_any (ctTx t) p.1.1 p.1.2 p.2.1.1 p.2.1.2 p.2.2.1 p.2.2.2 w1 (k1.keep hw1) (k2.keep hw1) (k3.keep hw1) (by have := ctTx_len t; omega) (by have := ctTx_len t; omega) (by have := ctTx_len t; omega))) ?_
          refine jl_as (u := .bool false) (congrArg Value.bool (hr)) ?_
          refine jl_y rfl (by decide) rfl (y_move rfl) ?_
          refine jl_y rfl (by decide) rfl (y_loadAgg_old rfl rfl hk (by simp)) ?_
          refine jl_pcall rfl (by decide) rfl (goes_func rfl) (fun w1 hw1 => pcall hw1 (txid_any (ctTx t) p.1.1 p.1.2 p.2.1.1 p.2.1.2 p.2.2.1 p.2.2.2 w1 (k1.keep hw1) (k2.keep hw1) (k3.keep hw1) (by have := ctTx_len t; omega) (by have := ctTx_len t; omega) (by have := ctTx_len t; omega) hcf)) ?_
          refine jl_y rfl (by decide) rfl (y_seql rfl rfl) ?_
          refine jl_as (u := .bool true) (congrArg (fun b => Value.bool b) (decide_eq_true (txID_not hr))) ?_
          refine jl_y rfl (by decide) rfl (y_pick_false rfl rfl) ?_
          refine jl_y rfl (by decide) rfl (y_move rfl) ?_
          refine jl_pcall rfl (by decide) rfl (goes_func rfl) (fun w1 hw1 => pcall hw1 (fixed9_any w1)) ?_
          refine jl_y rfl (by decide) rfl (y_pick_true rfl rfl) ?_
          refine jl_y rfl (by decide) rfl (y_assign rfl) ?_
          refine jl_nil ?_
          refine jq_then ?_
          refine jc_ret ?_
          refine jq_then_ret ?_
          refine jq_ret1 rfl rfl ?_
          exact fun _ hw => ⟨rfl, (hbx.ch.then (hby.ch.then hw.ch))⟩
        · skip
          -- region 8
          refine jc_region ?_
          refine jl_y rfl (by decide) rfl (y_loadAgg_old rfl rfl hk (by simp)) ?_
          refine jl_pcall rfl (by decide) rfl (goes_func rfl) (fun w1 hw1 => pcall hw1 (txright_any (ctTx t) p.1.1 p.1.2 p.2.1.1 p.2.1.2 p.2.2.1 p.2.2.2 w1 (k1.keep hw1) (k2.keep hw1) (k3.keep hw1) (by have := ctTx_len t; omega) (by have := ctTx_len t; omega) (by have := ctTx_len t; omega))) ?_
          refine jl_as (u := .bool true) (congrArg Value.bool (hr)) ?_
          refine jl_y rfl (by decide) rfl (y_not rfl) ?_
          refine jl_y rfl (by decide) rfl (y_move rfl) ?_
          refine jl_y rfl (by decide) rfl (y_loadAgg_old rfl rfl hu (by simp)) ?_
          refine jl_pcall rfl (by decide) rfl (goes_func rfl) (fun w1 hw1 => pcall hw1 (txright_any U y1 z1 y2 z2 pq.1 pq.2 w1 (u1.keep hw1) (u2.keep hw1) (u3.keep hw1) (by have := ctTx_len t; have := hul; omega) (by have := ctTx_len t; have := hul; omega) (by have := ctTx_len t; have := hul; omega))) ?_
          refine jl_as (u := .bool false) (congrArg Value.bool (hv)) ?_
          refine jl_y rfl (by decide) rfl (y_not rfl) ?_
          refine jl_y rfl (by decide) rfl (y_pick_false rfl rfl) ?_
          refine jl_nil ?_
          refine jq_then ?_
          refine jc_true rfl ?_
          refine jc_seq ?_
          -- region 9
          refine jc_region ?_
          refine jl_y rfl (by decide) rfl (y_loadAgg_old rfl rfl hk (by simp)) ?_
          refine jl_pcall rfl (by decide) rfl (goes_func rfl) (fun w1 hw1 => pcall hw1 (txright_any (ctTx t) p.1.1 p.1.2 p.2.1.1 p.2.1.2 p.2.2.1 p.2.2.2 w1 (k1.keep hw1) (k2.keep hw1) (k3.keep hw1) (by have := ctTx_len t; omega) (by have := ctTx_len t; omega) (by have := ctTx_len t; omega))) ?_
          refine jl_as (u := .bool true) (congrArg Value.bool (hr)) ?_
          refine jl_y rfl (by decide) rfl (y_move rfl) ?_
          refine jl_skip rfl (by decide) rfl ?_
          refine jl_skip rfl (by decide) rfl ?_
          refine jl_skip rfl (by decide) rfl ?_
          refine jl_y rfl (by decide) rfl (y_pick_true rfl rfl) ?_
          refine jl_y rfl (by decide) rfl (y_move rfl) ?_
          refine jl_pcall rfl (by decide) rfl (goes_func rfl) (fun w1 hw1 => pcall hw1 (fixed9_any w1)) ?_
          refine jl_y rfl (by decide) rfl (y_pick_true rfl rfl) ?_
          refine jl_y rfl (by decide) rfl (y_assign rfl) ?_
          refine jl_nil ?_
          refine jq_then ?_
          refine jc_ret ?_
          refine jq_then_ret ?_
          refine jq_ret1 rfl rfl ?_
          exact fun _ hw => ⟨rfl, (hbx.ch.then (hby.ch.then hw.ch))⟩
        · skip
          -- region 8
          refine jc_region ?_
          refine jl_y rfl (by decide) rfl (y_loadAgg_old rfl rfl hk (by simp)) ?_
          refine jl_pcall rfl (by decide) rfl (goes_func rfl) (fun w1 hw1 => pcall hw1 (txright_any (ctTx t) p.1.1 p.1.2 p.2.1.1 p.2.1.2 p.2.2.1 p.2.2.2 w1 (k1.keep hw1) (k2.keep hw1) (k3.keep hw1) (by have := ctTx_len t; omega) (by have := ctTx_len t; omega) (by have := ctTx_len t; omega))) ?_
          refine jl_as (u := .bool true) (congrArg Value.bool (hr)) ?_
          refine jl_y rfl (by decide) rfl (y_not rfl) ?_
          refine jl_y rfl (by decide) rfl (y_move rfl) ?_
          refine jl_y rfl (by decide) rfl (y_loadAgg_old rfl rfl hu (by simp)) ?_
          refine jl_pcall rfl (by decide) rfl (goes_func rfl) (fun w1 hw1 => pcall hw1 (txright_any U y1 z1 y2 z2 pq.1 pq.2 w1 (u1.keep hw1) (u2.keep hw1) (u3.keep hw1) (by have := ctTx_len t; have := hul; omega) (by have := ctTx_len t; have := hul; omega) (by have := ctTx_len t; have := hul; omega))) ?_
          refine jl_as (u := .bool true) (congrArg Value.bool (hv)) ?_
          refine jl_y rfl (by decide) rfl (y_not rfl) ?_
          refine jl_y rfl (by decide) rfl (y_pick_false rfl rfl) ?_
          refine jl_nil ?_
          refine jq_then ?_
          refine jc_false rfl ?_
          refine jc_skip ?_
          refine jq_then ?_
          refine jc_seq ?_
          -- region 10
          refine jc_drop [6] ?_
          refine jc_free (by kernel_rfl) Hp.stay ?_
          refine jn_y [] rfl rfl (fun w1 hw1 => And.intro rfl (y_loadAgg_old rfl rfl (hk.keep hw1) (by simp))) ?_
          refine jn_call [0] rfl rfl (fun w1 hw1 => And.intro rfl ⟨_, _, goes_func rfl, txid_any (ctTx t) p.1.1 p.1.2 p.2.1.1 p.2.1.2 p.2.2.1 p.2.2.2 w1 (k1.keep hw1) (k2.keep hw1) (k3.keep hw1) (by have := ctTx_len t; omega) (by have := ctTx_len t; omega) (by have := ctTx_len t; omega) hcf⟩) ?_
          refine jn_y [] rfl rfl (fun w1 hw1 => And.intro rfl (y_loadAgg_old rfl rfl (hu.keep hw1) (by simp))) ?_
          refine jn_call [2] rfl rfl (fun w1 hw1 => And.intro rfl ⟨_, _, goes_func rfl, txid_any U y1 z1 y2 z2 pq.1 pq.2 w1 (u1.keep hw1) (u2.keep hw1) (u3.keep hw1) (by have := ctTx_len t; have := hul; omega) (by have := ctTx_len t; have := hul; omega) (by have := ctTx_len t; have := hul; omega) hUf⟩) ?_
          refine jn_y [1, 3] rfl rfl (fun w1 hw1 => And.intro rfl (y_seql rfl rfl)) ?_
          refine jn_as (u := .bool true) (congrArg (fun b => Value.bool b) (decide_eq_true (id_same (core_same hr hv hUs hUo.symm)))) ?_
          refine jn_y [4] rfl rfl (fun w1 hw1 => And.intro rfl (y_move rfl)) ?_
          refine jn_y [5] rfl rfl (fun w1 hw1 => And.intro rfl (y_loadAgg_old rfl rfl (hk.keep hw1) (by simp))) ?_
          refine jn_call [5, 6] rfl rfl (fun w1 hw1 => And.intro rfl ⟨_, _, goes_func rfl, txcore_any (ctTx t) p.1.1 p.1.2 p.2.1.1 p.2.1.2 p.2.2.1 p.2.2.2 w1 (k1.keep hw1) (k2.keep hw1) (k3.keep hw1) (by have := ctTx_len t; omega) (by have := ctTx_len t; omega) (by have := ctTx_len t; omega) hcf⟩) ?_
          refine jn_y [5] rfl rfl (fun w1 hw1 => And.intro rfl (y_loadAgg_old rfl rfl (hu.keep hw1) (by simp))) ?_
          refine jn_call [5, 8] rfl rfl (fun w1 hw1 => And.intro rfl ⟨_, _, goes_func rfl, txcore_any U y1 z1 y2 z2 pq.1 pq.2 w1 (u1.keep hw1) (u2.keep hw1) (u3.keep hw1) (by have := ctTx_len t; have := hul; omega) (by have := ctTx_len t; have := hul; omega) (by have := ctTx_len t; have := hul; omega) hUf⟩) ?_
          refine jn_y [5, 7, 9] rfl rfl (fun w1 hw1 => And.intro rfl (y_seql rfl rfl)) ?_
          refine jn_as (u := .bool true) (congrArg (fun b => Value.bool b) (decide_eq_true (core_same hr hv hUs hUo.symm))) ?_
          refine jn_y [5, 10] rfl rfl (fun w1 hw1 => And.intro rfl (y_pick_true rfl rfl)) ?_
          refine jn_y [11] rfl rfl (fun w1 hw1 => And.intro rfl (y_move rfl)) ?_
          refine jn_y [12] rfl rfl (fun w1 hw1 => And.intro rfl (y_loadAgg_old rfl rfl (hk.keep hw1) (by simp))) ?_
          refine jn_call [12, 13] rfl rfl (fun w1 hw1 => And.intro rfl ⟨_, _, goes_func rfl, txid_any (ctTx t) p.1.1 p.1.2 p.2.1.1 p.2.1.2 p.2.2.1 p.2.2.2 w1 (k1.keep hw1) (k2.keep hw1) (k3.keep hw1) (by have := ctTx_len t; omega) (by have := ctTx_len t; omega) (by have := ctTx_len t; omega) hcf⟩) ?_
          refine jn_y [12, 14] rfl rfl (fun w1 hw1 => And.intro rfl (y_len_str rfl)) ?_
          refine jn_y [12, 15] rfl rfl (fun w1 hw1 => And.intro rfl (y_eql rfl rfl)) ?_
          refine jn_as (u := .bool true) (congrArg Value.bool (decide_eq_true (by rw [txID_size hr]; rfl))) ?_
          refine jn_y [12, 16] rfl rfl (fun w1 hw1 => And.intro rfl (y_pick_true rfl rfl)) ?_
          refine jn_y [17] rfl rfl (fun w1 hw1 => And.intro rfl (y_move rfl)) ?_
          refine jn_call [18] rfl rfl (fun w1 hw1 => And.intro rfl ⟨_, _, goes_func rfl, fixed9_any w1⟩) ?_
          refine jn_y [18, 19] rfl rfl (fun w1 hw1 => And.intro rfl (y_pick_true rfl rfl)) ?_
          refine jn_y [20] rfl rfl (fun w1 hw1 => And.intro rfl (y_assign rfl)) ?_
          refine jn_nil [21] (by decide) (fun w1 hw1 => jq_at hw1 ?_)
          refine jq_then ?_
          refine jc_ret ?_
          refine jq_ret1 rfl rfl ?_
          exact fun _ hw => ⟨rfl, (hbx.ch.then (hby.ch.then hw.ch))⟩
        )

end Go.Proofs.Ytamlleachfngeaa