/- The walk of NoteBytes. Written by program (walk.py) out of a table of contracts and invariants. -/
import Derived.Test.YtddpoigfliaklaaGreatRz
import Derived.Test.YtddpoigfliaklaaGreatJr
namespace Go.Proofs.YtddpoigfliaklaaGreat
open Go.RowKit
set_option maxRecDepth 100000
set_option maxHeartbeats 4000000
set_option linter.unusedVariables false
set_option linter.unusedSimpArgs false
theorem pfDec_len (S : ByteArray) : (pfDec S).wins.length ≤ 4 := by
  unfold pfDec
  split
  · exact rdPf_len rfl
  · decide

theorem noteBytes_any (p : Pf) (ad : Option Addr) (c : Nat) (q : Pf) (aq : Option Addr) (d : Nat) (s : ByteArray) (w : World) (hf : p.Fit) (hE : ElAt w ad 10 (p.wins.map Wn.c)) (hg : q.Fit) (hQ : ElAt w aq 10 (q.wins.map Wn.c)) :
  Calls Tryz.prog 4 #[.agg (Pf.c p ad c).toArray, .agg (Pf.c q aq d).toArray, .string s] w fun e w' => e = .returned (.bool true) ∧ Ch [] w w' := by
 have hcf := ctPf_fit hf
 have hcg := ctPf_fit hg
 have hss := cutS_size s 3000
 have hlp := ctPf_len p
 have hlq := ctPf_len q
 have hld := pfDec_len (cutS s 3000)
 refine calls_of (n := 69) (E := [(0, .agg (Pf.c p ad c).toArray), (1, .agg (Pf.c q aq d).toArray), (2, .string s)]) (W := Hp w [] []) Tryz.func4 rfl rfl (Nat.le_of_ble_eq_true rfl) rfl (Hp.nil _ _) ?_
 refine jsr ?_
 refine jl_m rfl (by decide) rfl (m_box rfl rfl) (fun b3 => ?_)
 refine jl_m rfl (by decide) rfl (m_box rfl rfl) (fun b4 => ?_)
 refine jz ?_
 refine jnt ?_
 refine jsr ?_
 refine jz ?_
 refine jl_fcall rfl (by decide) rfl (goes_func rfl) (fun w1 hw1 => cutpf_any p ad c w1 (hE.keep hw1)) (fun pp => ?_)
 refine jst ?_
 refine jnt ?_
 refine jsr ?_
 refine jz ?_
 refine jl_fcall rfl (by decide) rfl (goes_func rfl) (fun w1 hw1 => cutpf_any q aq d w1 (hQ.keep hw1)) (fun qq => ?_)
 refine jst ?_
 refine jnt ?_
 refine jsr ?_
 refine jz ?_
 refine jz ?_
 refine jy (y_len_str rfl) ?_
 refine jy (y_min rfl rfl) ?_
 refine jy (y_substr_hi rfl rfl (by omega) (by omega)) ?_
 refine jl_as (congrArg Value.string (cut_eq _ 3000)) ?_
 refine jz ?_
 refine jnt ?_
 refine jsr ?_
 refine jz ?_
 refine jl_fcall rfl (by decide) rfl (goes_func rfl) (fun w1 hw1 => dec_any (cutS s 3000) w1 (by omega)) (fun x => ?_)
 refine jz ?_
 refine jz ?_
 refine jz ?_
 refine jl_m rfl (by decide) rfl (m_alloc) (fun b7 => ?_)
 refine jst ?_
 refine jz ?_
 refine jnt ?_
 refine jsr ?_
 refine jz ?_
 refine jl_fcall rfl (by decide) rfl (goes_func rfl) (fun w1 hw1 => rdec_any (cutS s 3000) w1 (by omega)) (fun y => ?_)
 refine jz ?_
 refine jz ?_
 refine jz ?_
 refine jl_m rfl (by decide) rfl (m_alloc) (fun b9 => ?_)
 refine jst ?_
 refine jz ?_
 refine jnt ?_
 refine jc_seq ?_
 refine jc_world (fun _ h => h.cast (H' := [.cells b9 (Pf.c (pfDec (cutS s 3000)) y.1 y.2), .row y.1 (pfDec (cutS s 3000)).wins.length y.2 34 10 ((pfDec (cutS s 3000)).wins.flatMap Wn.c), .cells b7 (Pf.c (pfDec (cutS s 3000)) x.1 x.2), .row x.1 (pfDec (cutS s 3000)).wins.length x.2 26 10 ((pfDec (cutS s 3000)).wins.flatMap Wn.c), .row qq.1 (ctPf q).wins.length qq.2 26 10 ((ctPf q).wins.flatMap Wn.c), .row pp.1 (ctPf p).wins.length pp.2 26 10 ((ctPf p).wins.flatMap Wn.c), .cells b4 (Pf.c (ctPf q) qq.1 qq.2), .cells b3 (Pf.c (ctPf p) pp.1 pp.2)]) rfl) ?_
 refine jc_rebase (fun wx hbx => ?_)
 have hP : Old wx b3 0 (Pf.c (ctPf p) pp.1 pp.2) := Old.of_cells (hbx.get (.tail _ (.tail _ mem5)))
 have hQ2 : Old wx b4 0 (Pf.c (ctPf q) qq.1 qq.2) := Old.of_cells (hbx.get (.tail _ mem5))
 have hD : Old wx b7 0 (Pf.c (pfDec (cutS s 3000)) x.1 x.2) := Old.of_cells (hbx.get mem2)
 have hG : Old wx b9 0 (Pf.c (pfDec (cutS s 3000)) y.1 y.2) := Old.of_cells (hbx.get mem0)
 have eP : ElAt wx pp.1 10 ((ctPf p).wins.map Wn.c) := ElAt.of_row wn_len rfl (hbx.get mem5)
 have eQ : ElAt wx qq.1 10 ((ctPf q).wins.map Wn.c) := ElAt.of_row wn_len rfl (hbx.get mem4)
 have eD : ElAt wx x.1 10 ((pfDec (cutS s 3000)).wins.map Wn.c) := ElAt.of_row wn_len rfl (hbx.get mem3)
 have eG : ElAt wx y.1 10 ((pfDec (cutS s 3000)).wins.map Wn.c) := ElAt.of_row wn_len rfl (hbx.get mem1)
 refine jc_drop [6] ?_
 refine jc_free (by kernel_rfl) Hp.stay ?_
 refine jn_y [] rfl rfl (fun w1 hw1 => And.intro rfl (y_loadAgg_old rfl rfl (hP.keep hw1) (by simp))) ?_
 refine jn_call [0] rfl rfl (fun w1 hw1 => And.intro rfl ⟨_, _, goes_func rfl, right_any (ctPf p) pp.1 pp.2 w1 (eP.keep hw1) (by omega)⟩) ?_
 refine jn_y [] rfl rfl (fun w1 hw1 => And.intro rfl (y_loadAgg_old rfl rfl (hP.keep hw1) (by simp))) ?_
 refine jn_fcall [2] rfl rfl (fun w1 hw1 => And.intro rfl ⟨_, _, goes_func rfl, refpf_any (ctPf p) pp.1 pp.2 w1 (eP.keep hw1) (by omega)⟩) ?_
 refine jn_call [3] rfl rfl (fun w1 hw1 ra h33 => And.intro rfl ⟨_, _, goes_func rfl, rright_any (ctPf p) ra.1 ra.2 w1 (ElAt.of_row wn_len rfl (h33 _ mem0)) (by omega)⟩) ?_
 refine jn_y [1, 4] rfl rfl (fun w1 hw1 => And.intro rfl (y_eql_bool rfl rfl)) ?_
 refine jn_as (u := .bool true) (congrArg Value.bool (beq_self_eq_true _)) ?_
 refine jn_y [5] rfl rfl (fun w1 hw1 => And.intro rfl (y_move rfl)) ?_
 refine jn_y [6] rfl rfl (fun w1 hw1 => And.intro rfl (y_loadAgg_old rfl rfl (hP.keep hw1) (by simp))) ?_
 refine jn_call [6, 7] rfl rfl (fun w1 hw1 => And.intro rfl ⟨_, _, goes_func rfl, enc_any (ctPf p) pp.1 pp.2 w1 (eP.keep hw1) hcf (by omega)⟩) ?_
 refine jn_y [6] rfl rfl (fun w1 hw1 => And.intro rfl (y_loadAgg_old rfl rfl (hP.keep hw1) (by simp))) ?_
 refine jn_fcall [6, 9] rfl rfl (fun w1 hw1 => And.intro rfl ⟨_, _, goes_func rfl, refpf_any (ctPf p) pp.1 pp.2 w1 (eP.keep hw1) (by omega)⟩) ?_
 refine jn_call [6, 10] rfl rfl (fun w1 hw1 rb h40 => And.intro rfl ⟨_, _, goes_func rfl, renc_any (ctPf p) rb.1 rb.2 w1 (ElAt.of_row wn_len rfl (h40 _ mem0)) hcf (by omega)⟩) ?_
 refine jn_y [6, 8, 11] rfl rfl (fun w1 hw1 => And.intro rfl (y_seql rfl rfl)) ?_
 refine jn_as (u := .bool true) (congrArg (fun b => Value.bool b) (decide_eq_true (rfl))) ?_
 refine jn_y [6, 12] rfl rfl (fun w1 hw1 => And.intro rfl (y_pick_true rfl rfl)) ?_
 refine jn_y [13] rfl rfl (fun w1 hw1 => And.intro rfl (y_move rfl)) ?_
 refine jn_y [14] rfl rfl (fun w1 hw1 => And.intro rfl (y_loadAgg_old rfl rfl (hP.keep hw1) (by simp))) ?_
 refine jn_y [14] rfl rfl (fun w1 hw1 => And.intro rfl (y_loadAgg_old rfl rfl (hQ2.keep hw1) (by simp))) ?_
 refine jn_call [14, 15, 16] rfl rfl (fun w1 hw1 => And.intro rfl ⟨_, _, goes_func rfl, same_any (ctPf p) (ctPf q) pp.1 qq.1 pp.2 qq.2 w1 (eP.keep hw1) (eQ.keep hw1) (by omega) (by omega)⟩) ?_
 refine jn_y [14] rfl rfl (fun w1 hw1 => And.intro rfl (y_loadAgg_old rfl rfl (hP.keep hw1) (by simp))) ?_
 refine jn_fcall [14, 18] rfl rfl (fun w1 hw1 => And.intro rfl ⟨_, _, goes_func rfl, refpf_any (ctPf p) pp.1 pp.2 w1 (eP.keep hw1) (by omega)⟩) ?_
 refine jn_y [14] rfl rfl (fun w1 hw1 => And.intro rfl (y_loadAgg_old rfl rfl (hQ2.keep hw1) (by simp))) ?_
 refine jn_fcall [14, 20] rfl rfl (fun w1 hw1 => And.intro rfl ⟨_, _, goes_func rfl, refpf_any (ctPf q) qq.1 qq.2 w1 (eQ.keep hw1) (by omega)⟩) ?_
 refine jn_call [14, 19, 21] rfl rfl (fun w1 hw1 rc h49 rd h51 => And.intro rfl ⟨_, _, goes_func rfl, rsame_any (ctPf p) (ctPf q) rc.1 rd.1 rc.2 rd.2 w1 (ElAt.of_row wn_len rfl (h49 _ mem0)) (ElAt.of_row wn_len rfl (h51 _ mem0)) (by omega) (by omega)⟩) ?_
 refine jn_y [14, 17, 22] rfl rfl (fun w1 hw1 => And.intro rfl (y_eql_bool rfl rfl)) ?_
 refine jn_as (u := .bool true) (congrArg Value.bool (beq_self_eq_true _)) ?_
 refine jn_y [14, 23] rfl rfl (fun w1 hw1 => And.intro rfl (y_pick_true rfl rfl)) ?_
 refine jn_y [24] rfl rfl (fun w1 hw1 => And.intro rfl (y_move rfl)) ?_
 refine jn_y [25] rfl rfl (fun w1 hw1 => And.intro rfl (y_loadAgg_old rfl rfl (hD.keep hw1) (by simp))) ?_
 refine jn_fcall [25, 26] rfl rfl (fun w1 hw1 => And.intro rfl ⟨_, _, goes_func rfl, refpf_any (pfDec (cutS s 3000)) x.1 x.2 w1 (eD.keep hw1) (by omega)⟩) ?_
 refine jn_y [25] rfl rfl (fun w1 hw1 => And.intro rfl (y_loadAgg_old rfl rfl (hG.keep hw1) (by simp))) ?_
 refine jn_call [25, 27, 28] rfl rfl (fun w1 hw1 re h57 => And.intro rfl ⟨_, _, goes_func rfl, cq (rsame_any (pfDec (cutS s 3000)) (pfDec (cutS s 3000)) re.1 y.1 re.2 y.2 w1 (ElAt.of_row wn_len rfl (h57 _ mem0)) (eG.keep hw1) (by omega) (by omega)) (congrArg Value.bool (decide_eq_true rfl))⟩) ?_
 refine jn_y [25, 29] rfl rfl (fun w1 hw1 => And.intro rfl (y_pick_true rfl rfl)) ?_
 refine jn_y [30] rfl rfl (fun w1 hw1 => And.intro rfl (y_move rfl)) ?_
 refine jn_y [31] rfl rfl (fun w1 hw1 => And.intro rfl (y_move rfl)) ?_
 refine jn_y [31] rfl rfl (fun w1 hw1 => And.intro rfl (y_move rfl)) ?_
 refine jn_y [31, 32, 33] rfl rfl (fun w1 hw1 => And.intro rfl (y_eql rfl rfl)) ?_
 refine jn_as (u := .bool true) (congrArg Value.bool (decide_eq_true rfl)) ?_
 refine jn_y [31, 34] rfl rfl (fun w1 hw1 => And.intro rfl (y_pick_true rfl rfl)) ?_
 refine jn_y [35] rfl rfl (fun w1 hw1 => And.intro rfl (y_move rfl)) ?_
 refine jn_call [36] rfl rfl (fun w1 hw1 => And.intro rfl ⟨_, _, goes_func rfl, fixed8_any w1⟩) ?_
 refine jn_y [36, 37] rfl rfl (fun w1 hw1 => And.intro rfl (y_pick_true rfl rfl)) ?_
 refine jn_y [38] rfl rfl (fun w1 hw1 => And.intro rfl (y_assign rfl)) ?_
 refine jn_nil [39] (by decide) (fun w1 hw1 => jq_at hw1 ?_)
 refine jq_then ?_
 refine jc_ret ?_
 refine jq_ret1 rfl rfl ?_
 exact fun _ hw => ⟨rfl, (hbx.ch.then hw.ch)⟩

end Go.Proofs.YtddpoigfliaklaaGreat