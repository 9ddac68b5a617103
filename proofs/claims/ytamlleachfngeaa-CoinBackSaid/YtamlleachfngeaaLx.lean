/- The walk of CoinBack. Written by program (walk.py) out of a table of contracts and invariants. -/
import Derived.Test.YtamlleachfngeaaCj
import Derived.Test.YtamlleachfngeaaMrtd
namespace Go.Proofs.Ytamlleachfngeaa
open Go.RowKit
set_option maxRecDepth 100000
set_option maxHeartbeats 4000000
set_option linter.unusedVariables false
set_option linter.unusedSimpArgs false

theorem coinBack_any (t : Trx) (a1 : Option Addr) (c1 : Nat) (a2 : Option Addr) (c2 : Nat) (a3 : Option Addr) (c3 : Nat) (s : ByteArray) (w : World) (hf : t.Fit) (h1 : ElAt w a1 4 (t.ins.map Inp.c)) (h2 : ElAt w a2 9 (t.outs.map Oup.c)) (h3 : ElAt w a3 10 (t.pf.wins.map Wn.c)) :
    Calls Try.prog 4 #[.agg (Trx.c t a1 c1 a2 c2 a3 c3).toArray, .string s] w fun e w' => e = .returned (.bool true) ∧ Ch [] w w' := by
  have hcf := ctTx_fit hf
  have hxs := txEnc_size (ctTx t)
  have hss := cutS_size s 6000
  refine calls_of (n := 63) (E := [(0, .agg (Trx.c t a1 c1 a2 c2 a3 c3).toArray), (1, .string s)]) (W := Hp w [] []) Try.func4 rfl rfl (Nat.le_of_ble_eq_true rfl) rfl (Hp.nil _ _) ?_
  refine jc_seq ?_
  -- region 0
  refine jc_region ?_
  refine jl_m rfl (by decide) rfl (m_box rfl rfl) (fun b2 => ?_)
  refine jl_y rfl (by decide) rfl (y_assign rfl) ?_
  refine jl_nil ?_
  refine jq_then ?_
  refine jc_seq ?_
  -- region 1
  refine jc_region ?_
  first | refine jl_y rfl (by decide) rfl (y_loadAgg rfl (by first | exact mem0 | exact mem1 | exact mem2 | exact mem3 | exact mem4 | exact mem5) (by repeat constructor)) ?_ | refine jl_y rfl (by decide) rfl (y_loadAgg_row rfl (by first | exact mem0 | exact mem1 | exact mem2 | exact mem3 | exact mem4 | exact mem5) rfl (by assumption)) ?_ | refine jl_y rfl (by decide) rfl (y_loadAgg_old rfl rfl (by assumption) (by simp)) ?_
  refine jl_gcall3 rfl (by decide) rfl (goes_func rfl) (fun w1 hw1 => cuttx_any t a1 c1 a2 c2 a3 c3 w1 (h1.keep hw1) (h2.keep hw1) (h3.keep hw1)) (fun p => ?_)
  refine jl_w rfl rfl (w_storeAgg rfl rfl rfl rfl (by first | exact rep0 | exact rep1 | exact rep2 | exact rep3 | exact rep4) (by repeat constructor)) ?_
  refine jl_nil ?_
  refine jq_then ?_
  refine jc_seq ?_
  -- region 2
  refine jc_world (fun _ h => h.cast (H' := [.row p.1.1 (ctTx t).ins.length p.1.2 55 4 ((ctTx t).ins.flatMap Inp.c), .row p.2.1.1 (ctTx t).outs.length p.2.1.2 58 9 ((ctTx t).outs.flatMap Oup.c), .row p.2.2.1 (ctTx t).pf.wins.length p.2.2.2 101 10 ((ctTx t).pf.wins.flatMap Wn.c), .cells b2 (Trx.c (ctTx t) p.1.1 p.1.2 p.2.1.1 p.2.1.2 p.2.2.1 p.2.2.2)]) rfl) ?_
  refine jc_rebase (fun wx hbx => ?_)
  have hk : Old wx b2 0 (Trx.c (ctTx t) p.1.1 p.1.2 p.2.1.1 p.2.1.2 p.2.2.1 p.2.2.2) := Old.of_cells (hbx.get mem3)
  have k1 : ElAt wx p.1.1 4 ((ctTx t).ins.map Inp.c) := ElAt.of_row (fun _ => rfl) rfl (hbx.get mem0)
  have k2 : ElAt wx p.2.1.1 9 ((ctTx t).outs.map Oup.c) := ElAt.of_row (fun _ => rfl) rfl (hbx.get mem1)
  have k3 : ElAt wx p.2.2.1 10 ((ctTx t).pf.wins.map Wn.c) := ElAt.of_row (fun _ => rfl) rfl (hbx.get mem2)
  refine jc_region ?_
  refine jl_y rfl (by decide) rfl (y_move rfl) ?_
  refine jl_y rfl (by decide) rfl (y_move rfl) ?_
  refine jl_y rfl (by decide) rfl (y_len_str rfl) ?_
  refine jl_y rfl (by decide) rfl (y_min rfl rfl) ?_
  refine jl_y rfl (by decide) rfl (y_substr_hi rfl rfl (by omega) (by omega)) ?_
  refine jl_as (congrArg Value.string (cut_eq _ 6000)) ?_
  refine jl_y rfl (by decide) rfl (y_assign rfl) ?_
  refine jl_nil ?_
  refine jq_then ?_
  refine jc_seq ?_
  -- region 3
  refine jc_region ?_
  refine jl_y rfl (by decide) rfl (y_loadAgg_old rfl rfl hk (by simp)) ?_
  refine jl_pcall rfl (by decide) rfl (goes_func rfl) (fun w1 hw1 => pcall hw1 (txenc_any (ctTx t) p.1.1 p.1.2 p.2.1.1 p.2.1.2 p.2.2.1 p.2.2.2 w1 (k1.keep hw1) (k2.keep hw1) (k3.keep hw1) (by have := ctTx_len t; omega) (by have := ctTx_len t; omega) (by have := ctTx_len t; omega) hcf)) ?_
  refine jl_y rfl (by decide) rfl (y_assign rfl) ?_
  refine jl_nil ?_
  refine jq_then ?_
  refine jc_seq ?_
  -- region 4
  refine jc_region ?_
  refine jl_y rfl (by decide) rfl (y_move rfl) ?_
  refine jl_gcall3 rfl (by decide) rfl (goes_func rfl) (fun w1 hw1 => codec_any (txEnc (ctTx t)) w1 (by omega)) (fun d1 => ?_)
  refine jl_y rfl (by decide) rfl (y_move rfl) ?_
  refine jl_y rfl (by decide) rfl (y_extract rfl rfl) ?_
  refine jl_y rfl (by decide) rfl (y_extract rfl rfl) ?_
  refine jl_m rfl (by decide) rfl (m_alloc) (fun b6 => ?_)
  refine jl_w rfl rfl (w_storeAgg rfl rfl rfl rfl (by first | exact rep0 | exact rep1 | exact rep2 | exact rep3 | exact rep4) (by repeat constructor)) ?_
  refine jl_y rfl (by decide) rfl (y_assign rfl) ?_
  refine jl_nil ?_
  refine jq_then ?_
  refine jc_seq ?_
  refine jc_seq ?_
  cases hr : txRight (ctTx t)
  · skip
    -- region 5
    refine jc_rebase (fun wy hby => ?_)
    have hu : Old wy b6 0 (Trx.c (txDec (txEnc (ctTx t))) d1.1.1 d1.1.2 d1.2.1.1 d1.2.1.2 d1.2.2.1 d1.2.2.2) := Old.of_cells (hby.get mem0)
    have u1 : ElAt wy d1.1.1 4 ((txDec (txEnc (ctTx t))).ins.map Inp.c) := ElAt.of_row (fun _ => rfl) rfl (hby.get mem1)
    have u2 : ElAt wy d1.2.1.1 9 ((txDec (txEnc (ctTx t))).outs.map Oup.c) := ElAt.of_row (fun _ => rfl) rfl (hby.get mem2)
    have u3 : ElAt wy d1.2.2.1 10 ((txDec (txEnc (ctTx t))).pf.wins.map Wn.c) := ElAt.of_row (fun _ => rfl) rfl (hby.get mem3)
    replace hk := hk.keep hby
    replace k1 := k1.keep hby
    replace k2 := k2.keep hby
    replace k3 := k3.keep hby
    refine jc_region ?_
    refine jl_y rfl (by decide) rfl (y_loadAgg_old rfl rfl hk (by simp)) ?_
    refine jl_pcall rfl (by decide) rfl (goes_func rfl) (fun w1 hw1 => pcall hw1 (txright_any (ctTx t) p.1.1 p.1.2 p.2.1.1 p.2.1.2 p.2.2.1 p.2.2.2 w1 (k1.keep hw1) (k2.keep hw1) (k3.keep hw1) (by have := ctTx_len t; omega) (by have := ctTx_len t; omega) (by have := ctTx_len t; omega))) ?_
    refine jl_as (u := .bool false) (congrArg Value.bool (hr)) ?_
    refine jl_y rfl (by decide) rfl (y_move rfl) ?_
    refine jl_y rfl (by decide) rfl (y_sneq rfl rfl) ?_
    refine jl_as (u := .bool false) (congrArg Value.bool (by rw [txEnc_ne, hr]; rfl)) ?_
    refine jl_y rfl (by decide) rfl (y_neq_bool rfl rfl) ?_
    refine jl_as (u := .bool false) rfl ?_
    refine jl_y rfl (by decide) rfl (y_move rfl) ?_
    refine jl_y rfl (by decide) rfl (y_move rfl) ?_
    refine jl_y rfl (by decide) rfl (y_sneq rfl rfl) ?_
    refine jl_as (u := .bool false) (congrArg Value.bool (by rw [txEnc_ne, hr]; rfl)) ?_
    refine jl_y rfl (by decide) rfl (y_move rfl) ?_
    refine jl_skip rfl (by decide) rfl ?_
    refine jl_skip rfl (by decide) rfl ?_
    refine jl_skip rfl (by decide) rfl ?_
    refine jl_skip rfl (by decide) rfl ?_
    refine jl_skip rfl (by decide) rfl ?_
    refine jl_skip rfl (by decide) rfl ?_
    refine jl_skip rfl (by decide) rfl ?_
    refine jl_skip rfl (by decide) rfl ?_
    refine jl_y rfl (by decide) rfl (y_pick_false rfl rfl) ?_
    refine jl_y rfl (by decide) rfl (y_pick_false rfl rfl) ?_
    refine jl_nil ?_
    refine jq_then ?_
    refine jc_false rfl ?_
    refine jc_skip ?_
    refine jq_then ?_
    refine jc_seq ?_
    -- region 7
    refine jc_region ?_
    refine jl_y rfl (by decide) rfl (y_move rfl) ?_
    refine jl_gcall3 rfl (by decide) rfl (goes_func rfl) (fun w1 hw1 => codec_any (cutS s 6000) w1 (by omega)) (fun d2 => ?_)
    refine jl_y rfl (by decide) rfl (y_move rfl) ?_
    refine jl_y rfl (by decide) rfl (y_extract rfl rfl) ?_
    refine jl_y rfl (by decide) rfl (y_extract rfl rfl) ?_
    refine jl_m rfl (by decide) rfl (m_alloc) (fun b8 => ?_)
    refine jl_w rfl rfl (w_storeAgg rfl rfl rfl rfl (by first | exact rep0 | exact rep1 | exact rep2 | exact rep3 | exact rep4) (by repeat constructor)) ?_
    refine jl_y rfl (by decide) rfl (y_assign rfl) ?_
    refine jl_nil ?_
    refine jq_then ?_
    refine jc_seq ?_
    -- region 8
    refine jc_rebase (fun wz hbz => ?_)
    have hv : Old wz b8 0 (Trx.c (txDec (cutS s 6000)) d2.1.1 d2.1.2 d2.2.1.1 d2.2.1.2 d2.2.2.1 d2.2.2.2) := Old.of_cells (hbz.get mem0)
    have v1 : ElAt wz d2.1.1 4 ((txDec (cutS s 6000)).ins.map Inp.c) := ElAt.of_row (fun _ => rfl) rfl (hbz.get mem1)
    have v2 : ElAt wz d2.2.1.1 9 ((txDec (cutS s 6000)).outs.map Oup.c) := ElAt.of_row (fun _ => rfl) rfl (hbz.get mem2)
    have v3 : ElAt wz d2.2.2.1 10 ((txDec (cutS s 6000)).pf.wins.map Wn.c) := ElAt.of_row (fun _ => rfl) rfl (hbz.get mem3)
    replace hk := hk.keep hbz
    replace k1 := k1.keep hbz
    replace k2 := k2.keep hbz
    replace k3 := k3.keep hbz
    replace hu := hu.keep hbz
    replace u1 := u1.keep hbz
    replace u2 := u2.keep hbz
    replace u3 := u3.keep hbz
    refine jc_region ?_
    refine jl_y rfl (by decide) rfl (y_move rfl) ?_
    refine jl_y rfl (by decide) rfl (y_neq rfl rfl) ?_
    refine jl_prop (fun h49 => ?_) (fun h49 => ?_)
    · first
      | (exfalso; omega)
      | (
        refine jl_y rfl (by decide) rfl (y_move rfl) ?_
        refine jl_skip rfl (by decide) rfl ?_
        refine jl_skip rfl (by decide) rfl ?_
        refine jl_skip rfl (by decide) rfl ?_
        refine jl_skip rfl (by decide) rfl ?_
        refine jl_skip rfl (by decide) rfl ?_
        refine jl_skip rfl (by decide) rfl ?_
        refine jl_skip rfl (by decide) rfl ?_
        refine jl_skip rfl (by decide) rfl ?_
        refine jl_y rfl (by decide) rfl (y_pick_true rfl rfl) ?_
        refine jl_y rfl (by decide) rfl (y_move rfl) ?_
        refine jl_pcall rfl (by decide) rfl (goes_func rfl) (fun w1 hw1 => pcall hw1 (fixed9_any w1)) ?_
        refine jl_y rfl (by decide) rfl (y_pick_true rfl rfl) ?_
        refine jl_y rfl (by decide) rfl (y_assign rfl) ?_
        refine jl_nil ?_
        refine jq_then ?_
        refine jc_ret ?_
        refine jq_ret1 rfl rfl ?_
        exact fun _ hw => ⟨rfl, (hbx.ch.then (hby.ch.then (hbz.ch.then hw.ch)))⟩
        )
    · first
      | (exfalso; omega)
      | (
        refine jl_y rfl (by decide) rfl (y_move rfl) ?_
        refine jl_y rfl (by decide) rfl (y_loadAgg_old rfl rfl hv (by simp)) ?_
        refine jl_pcall rfl (by decide) rfl (goes_func rfl) (fun w1 hw1 => pcall hw1 (cq (txright_any (txDec (cutS s 6000)) d2.1.1 d2.1.2 d2.2.1.1 d2.2.1.2 d2.2.2.1 d2.2.2.2 w1 (v1.keep hw1) (v2.keep hw1) (v3.keep hw1) (by have := txDec_len ((cutS s 6000)); omega) (by have := txDec_len ((cutS s 6000)); omega) (by have := txDec_len ((cutS s 6000)); omega)) (congrArg Value.bool (enc_dec (by omega)).1))) ?_
        refine jl_y rfl (by decide) rfl (y_move rfl) ?_
        refine jl_y rfl (by decide) rfl (y_loadAgg_old rfl rfl hv (by simp)) ?_
        refine jl_pcall rfl (by decide) rfl (goes_func rfl) (fun w1 hw1 => pcall hw1 (txenc_any (txDec (cutS s 6000)) d2.1.1 d2.1.2 d2.2.1.1 d2.2.1.2 d2.2.2.1 d2.2.2.2 w1 (v1.keep hw1) (v2.keep hw1) (v3.keep hw1) (by have := txDec_len ((cutS s 6000)); omega) (by have := txDec_len ((cutS s 6000)); omega) (by have := txDec_len ((cutS s 6000)); omega) (txDec_fit _))) ?_
        refine jl_y rfl (by decide) rfl (y_move rfl) ?_
        refine jl_y rfl (by decide) rfl (y_seql rfl rfl) ?_
        refine jl_as (u := .bool true) (congrArg (fun b => Value.bool b) (decide_eq_true ((enc_dec (by omega)).2))) ?_
        refine jl_y rfl (by decide) rfl (y_pick_true rfl rfl) ?_
        refine jl_y rfl (by decide) rfl (y_pick_false rfl rfl) ?_
        refine jl_y rfl (by decide) rfl (y_move rfl) ?_
        refine jl_pcall rfl (by decide) rfl (goes_func rfl) (fun w1 hw1 => pcall hw1 (fixed9_any w1)) ?_
        refine jl_y rfl (by decide) rfl (y_pick_true rfl rfl) ?_
        refine jl_y rfl (by decide) rfl (y_assign rfl) ?_
        refine jl_nil ?_
        refine jq_then ?_
        refine jc_ret ?_
        refine jq_ret1 rfl rfl ?_
        exact fun _ hw => ⟨rfl, (hbx.ch.then (hby.ch.then (hbz.ch.then hw.ch)))⟩
        )
  · skip
    -- region 5
    refine jc_rebase (fun wy hby => ?_)
    have hu : Old wy b6 0 (Trx.c (txDec (txEnc (ctTx t))) d1.1.1 d1.1.2 d1.2.1.1 d1.2.1.2 d1.2.2.1 d1.2.2.2) := Old.of_cells (hby.get mem0)
    have u1 : ElAt wy d1.1.1 4 ((txDec (txEnc (ctTx t))).ins.map Inp.c) := ElAt.of_row (fun _ => rfl) rfl (hby.get mem1)
    have u2 : ElAt wy d1.2.1.1 9 ((txDec (txEnc (ctTx t))).outs.map Oup.c) := ElAt.of_row (fun _ => rfl) rfl (hby.get mem2)
    have u3 : ElAt wy d1.2.2.1 10 ((txDec (txEnc (ctTx t))).pf.wins.map Wn.c) := ElAt.of_row (fun _ => rfl) rfl (hby.get mem3)
    replace hk := hk.keep hby
    replace k1 := k1.keep hby
    replace k2 := k2.keep hby
    replace k3 := k3.keep hby
    refine jc_region ?_
    refine jl_y rfl (by decide) rfl (y_loadAgg_old rfl rfl hk (by simp)) ?_
    refine jl_pcall rfl (by decide) rfl (goes_func rfl) (fun w1 hw1 => pcall hw1 (txright_any (ctTx t) p.1.1 p.1.2 p.2.1.1 p.2.1.2 p.2.2.1 p.2.2.2 w1 (k1.keep hw1) (k2.keep hw1) (k3.keep hw1) (by have := ctTx_len t; omega) (by have := ctTx_len t; omega) (by have := ctTx_len t; omega))) ?_
    refine jl_as (u := .bool true) (congrArg Value.bool (hr)) ?_
    refine jl_y rfl (by decide) rfl (y_move rfl) ?_
    refine jl_y rfl (by decide) rfl (y_sneq rfl rfl) ?_
    refine jl_as (u := .bool true) (congrArg Value.bool (by rw [txEnc_ne, hr]; rfl)) ?_
    refine jl_y rfl (by decide) rfl (y_neq_bool rfl rfl) ?_
    refine jl_as (u := .bool false) rfl ?_
    refine jl_y rfl (by decide) rfl (y_move rfl) ?_
    refine jl_y rfl (by decide) rfl (y_move rfl) ?_
    refine jl_y rfl (by decide) rfl (y_sneq rfl rfl) ?_
    refine jl_as (u := .bool true) (congrArg Value.bool (by rw [txEnc_ne, hr]; rfl)) ?_
    refine jl_y rfl (by decide) rfl (y_move rfl) ?_
    refine jl_y rfl (by decide) rfl (y_move rfl) ?_
    refine jl_y rfl (by decide) rfl (y_neq rfl rfl) ?_
    refine jl_as (u := .bool false) (congrArg Value.bool (decide_eq_false (fun h => h (dec_enc hr hcf).1))) ?_
    refine jl_y rfl (by decide) rfl (y_move rfl) ?_
    refine jl_y rfl (by decide) rfl (y_loadAgg_old rfl rfl hk (by simp)) ?_
    refine jl_y rfl (by decide) rfl (y_loadAgg_old rfl rfl hu (by simp)) ?_
    refine jl_pcall rfl (by decide) rfl (goes_func rfl) (fun w1 hw1 => pcall hw1 (cq (cosame_any (ctTx t) (txDec (txEnc (ctTx t))) p.1.1 p.1.2 p.2.1.1 p.2.1.2 p.2.2.1 p.2.2.2 d1.1.1 d1.1.2 d1.2.1.1 d1.2.1.2 d1.2.2.1 d1.2.2.2 w1 (k1.keep hw1) (k2.keep hw1) (k3.keep hw1) (u1.keep hw1) (u2.keep hw1) (u3.keep hw1) (by have := ctTx_len t; omega) (by have := ctTx_len t; omega) (by have := ctTx_len t; omega) (by have := txDec_len ((txEnc (ctTx t))); omega) (by have := txDec_len ((txEnc (ctTx t))); omega) (by have := txDec_len ((txEnc (ctTx t))); omega)) (congrArg Value.bool (decide_eq_true (dec_enc hr hcf).2.symm)))) ?_
    refine jl_y rfl (by decide) rfl (y_not rfl) ?_
    refine jl_y rfl (by decide) rfl (y_pick_false rfl rfl) ?_
    refine jl_y rfl (by decide) rfl (y_pick_true rfl rfl) ?_
    refine jl_y rfl (by decide) rfl (y_pick_false rfl rfl) ?_
    refine jl_nil ?_
    refine jq_then ?_
    refine jc_false rfl ?_
    refine jc_skip ?_
    refine jq_then ?_
    refine jc_seq ?_
    -- region 7
    refine jc_region ?_
    refine jl_y rfl (by decide) rfl (y_move rfl) ?_
    refine jl_gcall3 rfl (by decide) rfl (goes_func rfl) (fun w1 hw1 => codec_any (cutS s 6000) w1 (by omega)) (fun d2 => ?_)
    refine jl_y rfl (by decide) rfl (y_move rfl) ?_
    refine jl_y rfl (by decide) rfl (y_extract rfl rfl) ?_
    refine jl_y rfl (by decide) rfl (y_extract rfl rfl) ?_
    refine jl_m rfl (by decide) rfl (m_alloc) (fun b8 => ?_)
    refine jl_w rfl rfl (w_storeAgg rfl rfl rfl rfl (by first | exact rep0 | exact rep1 | exact rep2 | exact rep3 | exact rep4) (by repeat constructor)) ?_
    refine jl_y rfl (by decide) rfl (y_assign rfl) ?_
    refine jl_nil ?_
    refine jq_then ?_
    refine jc_seq ?_
    -- region 8
    refine jc_rebase (fun wz hbz => ?_)
    have hv : Old wz b8 0 (Trx.c (txDec (cutS s 6000)) d2.1.1 d2.1.2 d2.2.1.1 d2.2.1.2 d2.2.2.1 d2.2.2.2) := Old.of_cells (hbz.get mem0)
    have v1 : ElAt wz d2.1.1 4 ((txDec (cutS s 6000)).ins.map Inp.c) := ElAt.of_row (fun _ => rfl) rfl (hbz.get mem1)
    have v2 : ElAt wz d2.2.1.1 9 ((txDec (cutS s 6000)).outs.map Oup.c) := ElAt.of_row (fun _ => rfl) rfl (hbz.get mem2)
    have v3 : ElAt wz d2.2.2.1 10 ((txDec (cutS s 6000)).pf.wins.map Wn.c) := ElAt.of_row (fun _ => rfl) rfl (hbz.get mem3)
    replace hk := hk.keep hbz
    replace k1 := k1.keep hbz
    replace k2 := k2.keep hbz
    replace k3 := k3.keep hbz
    replace hu := hu.keep hbz
    replace u1 := u1.keep hbz
    replace u2 := u2.keep hbz
    replace u3 := u3.keep hbz
    refine jc_region ?_
    refine jl_y rfl (by decide) rfl (y_move rfl) ?_
    refine jl_y rfl (by decide) rfl (y_neq rfl rfl) ?_
    refine jl_prop (fun h49 => ?_) (fun h49 => ?_)
    · first
      | (exfalso; omega)
      | (
        refine jl_y rfl (by decide) rfl (y_move rfl) ?_
        refine jl_skip rfl (by decide) rfl ?_
        refine jl_skip rfl (by decide) rfl ?_
        refine jl_skip rfl (by decide) rfl ?_
        refine jl_skip rfl (by decide) rfl ?_
        refine jl_skip rfl (by decide) rfl ?_
        refine jl_skip rfl (by decide) rfl ?_
        refine jl_skip rfl (by decide) rfl ?_
        refine jl_skip rfl (by decide) rfl ?_
        refine jl_y rfl (by decide) rfl (y_pick_true rfl rfl) ?_
        refine jl_y rfl (by decide) rfl (y_move rfl) ?_
        refine jl_pcall rfl (by decide) rfl (goes_func rfl) (fun w1 hw1 => pcall hw1 (fixed9_any w1)) ?_
        refine jl_y rfl (by decide) rfl (y_pick_true rfl rfl) ?_
        refine jl_y rfl (by decide) rfl (y_assign rfl) ?_
        refine jl_nil ?_
        refine jq_then ?_
        refine jc_ret ?_
        refine jq_ret1 rfl rfl ?_
        exact fun _ hw => ⟨rfl, (hbx.ch.then (hby.ch.then (hbz.ch.then hw.ch)))⟩
        )
    · first
      | (exfalso; omega)
      | (
        refine jl_y rfl (by decide) rfl (y_move rfl) ?_
        refine jl_y rfl (by decide) rfl (y_loadAgg_old rfl rfl hv (by simp)) ?_
        refine jl_pcall rfl (by decide) rfl (goes_func rfl) (fun w1 hw1 => pcall hw1 (cq (txright_any (txDec (cutS s 6000)) d2.1.1 d2.1.2 d2.2.1.1 d2.2.1.2 d2.2.2.1 d2.2.2.2 w1 (v1.keep hw1) (v2.keep hw1) (v3.keep hw1) (by have := txDec_len ((cutS s 6000)); omega) (by have := txDec_len ((cutS s 6000)); omega) (by have := txDec_len ((cutS s 6000)); omega)) (congrArg Value.bool (enc_dec (by omega)).1))) ?_
        refine jl_y rfl (by decide) rfl (y_move rfl) ?_
        refine jl_y rfl (by decide) rfl (y_loadAgg_old rfl rfl hv (by simp)) ?_
        refine jl_pcall rfl (by decide) rfl (goes_func rfl) (fun w1 hw1 => pcall hw1 (txenc_any (txDec (cutS s 6000)) d2.1.1 d2.1.2 d2.2.1.1 d2.2.1.2 d2.2.2.1 d2.2.2.2 w1 (v1.keep hw1) (v2.keep hw1) (v3.keep hw1) (by have := txDec_len ((cutS s 6000)); omega) (by have := txDec_len ((cutS s 6000)); omega) (by have := txDec_len ((cutS s 6000)); omega) (txDec_fit _))) ?_
        refine jl_y rfl (by decide) rfl (y_move rfl) ?_
        refine jl_y rfl (by decide) rfl (y_seql rfl rfl) ?_
        refine jl_as (u := .bool true) (congrArg (fun b => Value.bool b) (decide_eq_true ((enc_dec (by omega)).2))) ?_
        refine jl_y rfl (by decide) rfl (y_pick_true rfl rfl) ?_
        refine jl_y rfl (by decide) rfl (y_pick_false rfl rfl) ?_
        refine jl_y rfl (by decide) rfl (y_move rfl) ?_
        refine jl_pcall rfl (by decide) rfl (goes_func rfl) (fun w1 hw1 => pcall hw1 (fixed9_any w1)) ?_
        refine jl_y rfl (by decide) rfl (y_pick_true rfl rfl) ?_
        refine jl_y rfl (by decide) rfl (y_assign rfl) ?_
        refine jl_nil ?_
        refine jq_then ?_
        refine jc_ret ?_
        refine jq_ret1 rfl rfl ?_
        exact fun _ hw => ⟨rfl, (hbx.ch.then (hby.ch.then (hbz.ch.then hw.ch)))⟩
        )

end Go.Proofs.Ytamlleachfngeaa