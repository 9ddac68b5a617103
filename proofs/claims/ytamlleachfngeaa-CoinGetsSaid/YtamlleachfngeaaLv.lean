/- The walk of CoinGets. Written by program (walk.py) out of a table of contracts and invariants. -/
import Derived.Test.YtamlleachfngeaaRq
namespace Go.Proofs.Ytamlleachfngeaa
open Go.RowKit
set_option maxRecDepth 100000
set_option maxHeartbeats 1000000
set_option linter.unusedVariables false
set_option linter.unusedSimpArgs false

theorem coinGets_any (s : ByteArray) (w : World) :
  Calls Try.prog 3 #[.string s] w fun e w' => e = .returned (.bool true) ∧ Ch [] w w' := by
 have hss := cutS_size s 6000
 refine calls_of (n := 34) (E := [(0, .string s)]) (W := Hp w [] []) Try.func3 rfl rfl (Nat.le_of_ble_eq_true rfl) rfl (Hp.nil _ _) ?_
 refine jsr ?_
 refine jz ?_
 refine jnt ?_
 refine jsr ?_
 refine jz ?_
 refine jz ?_
 refine jy (y_len_str rfl) ?_
 refine jy (y_min rfl rfl) ?_
 refine jy (y_substr_hi rfl rfl (by omega) (by omega)) ?_
 refine jl_as (congrArg Value.string (cut_eq _ 6000)) ?_
 refine jz ?_
 refine jnt ?_
 refine jsr ?_
 refine jz ?_
 refine jl_gcall3 rfl (by decide) rfl (goes_func rfl) (fun w1 hw1 => codec_any (cutS s 6000) w1 (by omega)) (fun p => ?_)
 refine jz ?_
 refine jz ?_
 refine jz ?_
 refine jl_m rfl (by decide) rfl (m_alloc) (fun b3 => ?_)
 refine jst ?_
 refine jz ?_
 refine jnt ?_
 refine jc_seq ?_
 refine jc_rebase (fun wx hbx => ?_)
 have hk : Old wx b3 0 (Trx.c (txDec (cutS s 6000)) p.1.1 p.1.2 p.2.1.1 p.2.1.2 p.2.2.1 p.2.2.2) := Old.of_cells (hbx.get mem0)
 have k1 : ElAt wx p.1.1 4 ((txDec (cutS s 6000)).ins.map Inp.c) := ElAt.of_row (fun _ => rfl) rfl (hbx.get mem1)
 have k2 : ElAt wx p.2.1.1 9 ((txDec (cutS s 6000)).outs.map Oup.c) := ElAt.of_row (fun _ => rfl) rfl (hbx.get mem2)
 have k3 : ElAt wx p.2.2.1 10 ((txDec (cutS s 6000)).pf.wins.map Wn.c) := ElAt.of_row (fun _ => rfl) rfl (hbx.get mem3)
 refine jc_region ?_
 refine jz ?_
 refine jl_gcall3 rfl (by decide) rfl (goes_func rfl) (fun w1 hw1 => rtxdec_any (cutS s 6000) w1 (by omega)) (fun q => ?_)
 refine jz ?_
 refine jz ?_
 refine jz ?_
 refine jl_m rfl (by decide) rfl (m_alloc) (fun b5 => ?_)
 refine jst ?_
 refine jz ?_
 refine jnt ?_
 refine jc_seq ?_
 refine jc_rebase (fun wy hby => ?_)
 have hu : Old wy b5 0 (Trx.c (txDec (cutS s 6000)) q.1.1 q.1.2 q.2.1.1 q.2.1.2 q.2.2.1 q.2.2.2) := Old.of_cells (hby.get mem0)
 have u1 : ElAt wy q.1.1 4 ((txDec (cutS s 6000)).ins.map Inp.c) := ElAt.of_row (fun _ => rfl) rfl (hby.get mem1)
 have u2 : ElAt wy q.2.1.1 9 ((txDec (cutS s 6000)).outs.map Oup.c) := ElAt.of_row (fun _ => rfl) rfl (hby.get mem2)
 have u3 : ElAt wy q.2.2.1 10 ((txDec (cutS s 6000)).pf.wins.map Wn.c) := ElAt.of_row (fun _ => rfl) rfl (hby.get mem3)
 replace hk := hk.keep hby
 replace k1 := k1.keep hby
 replace k2 := k2.keep hby
 replace k3 := k3.keep hby
 refine jc_drop [2] ?_
 refine jc_free (by kernel_rfl) Hp.stay ?_
 refine jn_y [] rfl rfl (fun w1 hw1 => And.intro rfl (y_loadAgg_old rfl rfl (hk.keep hw1) (by simp))) ?_
 refine jn_gcall [0] rfl rfl (fun w1 hw1 => And.intro rfl ⟨_, _, goes_func rfl, reftx_any (txDec (cutS s 6000)) p.1.1 p.1.2 p.2.1.1 p.2.1.2 p.2.2.1 p.2.2.2 w1 (k1.keep hw1) (k2.keep hw1) (k3.keep hw1) (by have := txDec_len ((cutS s 6000)); omega) (by have := txDec_len ((cutS s 6000)); omega) (by have := txDec_len ((cutS s 6000)); omega)⟩) ?_
 refine jn_y [] rfl rfl (fun w1 hw1 => And.intro rfl (y_loadAgg_old rfl rfl (hu.keep hw1) (by simp))) ?_
 refine jn_call [1, 2] rfl rfl (fun w1 hw1 r h23 => And.intro rfl ⟨_, _, goes_func rfl, cq (rcosame_any (txDec (cutS s 6000)) r.1.1 r.1.2 r.2.1.1 r.2.1.2 r.2.2.1 r.2.2.2 (txDec (cutS s 6000)) q.1.1 q.1.2 q.2.1.1 q.2.1.2 q.2.2.1 q.2.2.2 w1 (ElAt.of_row (fun _ => rfl) rfl (h23 _ mem0)) (ElAt.of_row (fun _ => rfl) rfl (h23 _ mem1)) (ElAt.of_row (fun _ => rfl) rfl (h23 _ mem2)) (u1.keep hw1) (u2.keep hw1) (u3.keep hw1) (by have := txDec_len ((cutS s 6000)); omega) (by have := txDec_len ((cutS s 6000)); omega) (by have := txDec_len ((cutS s 6000)); omega) (by have := txDec_len ((cutS s 6000)); omega) (by have := txDec_len ((cutS s 6000)); omega) (by have := txDec_len ((cutS s 6000)); omega)) (congrArg Value.bool (decide_eq_true rfl))⟩) ?_
 refine jn_y [3] rfl rfl (fun w1 hw1 => And.intro rfl (y_move rfl)) ?_
 refine jn_y [4] rfl rfl (fun w1 hw1 => And.intro rfl (y_move rfl)) ?_
 refine jn_y [4] rfl rfl (fun w1 hw1 => And.intro rfl (y_move rfl)) ?_
 refine jn_y [4, 5, 6] rfl rfl (fun w1 hw1 => And.intro rfl (y_eql rfl rfl)) ?_
 refine jn_as (u := .bool true) (congrArg Value.bool (decide_eq_true rfl)) ?_
 refine jn_y [4, 7] rfl rfl (fun w1 hw1 => And.intro rfl (y_pick_true rfl rfl)) ?_
 refine jn_y [8] rfl rfl (fun w1 hw1 => And.intro rfl (y_move rfl)) ?_
 refine jn_call [9] rfl rfl (fun w1 hw1 => And.intro rfl ⟨_, _, goes_func rfl, fixed9_any w1⟩) ?_
 refine jn_y [9, 10] rfl rfl (fun w1 hw1 => And.intro rfl (y_pick_true rfl rfl)) ?_
 refine jn_y [11] rfl rfl (fun w1 hw1 => And.intro rfl (y_assign rfl)) ?_
 refine jn_nil [12] (by decide) (fun w1 hw1 => jq_at hw1 ?_)
 refine jq_then ?_
 refine jc_ret ?_
 refine jq_ret1 rfl rfl ?_
 exact fun _ hw => ⟨rfl, (hbx.ch.then (hby.ch.then hw.ch))⟩

end Go.Proofs.Ytamlleachfngeaa