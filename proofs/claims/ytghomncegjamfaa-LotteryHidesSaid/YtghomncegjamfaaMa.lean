/- The walk of LotteryHides. Written by program (walk.py) out of a table of contracts and invariants. -/
import Derived.Test.YtghomncegjamfaaLz
import Derived.Test.YtghomncegjamfaaJy
namespace Go.Proofs.Ytghomncegjamfaa
open Go.RowKit
set_option maxRecDepth 100000
set_option maxHeartbeats 2000000
set_option linter.unusedVariables false
set_option linter.unusedSimpArgs false
attribute [local irreducible] Yields Makes Writes
attribute [local irreducible] commitS signK rootK

theorem lotteryHides_any (o : Of) (x0 x1 : Int) (s : ByteArray) (w : World) (hf : o.Fit) (h0 : fits .u64 x0) (h1 : fits .u64 x1) :
  Calls Try.prog 6 #[.agg (Of.c o).toArray, .agg #[.int .u64 x0, .int .u64 x1], .string s] w fun e w' => e = .returned (.bool true) ∧ Ch [] w w' := by
 refine calls_of (n := 78) (E := [(0, .agg (Of.c o).toArray), (1, .agg #[.int .u64 x0, .int .u64 x1]), (2, .string s)]) (W := Hp w [] []) Try.func6 rfl rfl (Nat.le_of_ble_eq_true rfl) rfl (Hp.nil _ _) ?_
 refine jsr ?_
 refine jl_m rfl (by decide) rfl (m_box rfl rfl) (fun b3 => ?_)
 refine jl_m rfl (by decide) rfl (m_box rfl rfl) (fun b4 => ?_)
 refine jz ?_
 refine jnt ?_
 refine jsr ?_
 refine jz ?_
 refine jpc (goes_func rfl) (fun w1 hw1 => lcut_any o w1) ?_
 refine jst ?_
 refine jnt ?_
 refine jsr ?_
 refine jz ?_
 refine jl_m rfl (by decide) rfl (m_alloc) (fun b7 => ?_)
 refine jst ?_
 refine jnt ?_
 refine jsr ?_
 refine jz ?_
 refine jz ?_
 refine jy (y_len_str rfl) ?_
 refine jy (y_min rfl rfl) ?_
 refine jy (y_substr_hi rfl rfl (by omega) (by omega)) ?_
 refine jl_as (u := .string (cutS s 40)) (congrArg Value.string (cut_eq _ 40)) ?_
 refine jz ?_
 refine jst ?_
 refine jnt ?_
 refine jsr ?_
 refine jy (y_indexAddr_arr rfl rfl (by omega) (by omega) (by simp only [Int.toNat_natCast, Int.reduceSub, Int.reduceAdd, Int.reduceToNat, Nat.reduceMul, Nat.reduceAdd, Nat.zero_add, Nat.mul_one, Nat.zero_mul, Nat.add_zero]; exact rfl)) ?_
 refine jz ?_
 refine jz ?_
 refine jst ?_
 refine jnt ?_
 refine jsr ?_
 refine jz ?_
 refine jz ?_
 refine jz ?_
 refine jz ?_
 refine jst ?_
 refine jnt ?_
 refine jc_seq ?_
 refine jc_drop [] ?_
 refine jc_freeT 6 (by kernel_rfl) (by kernel_rfl) ?_
 simp only [List.take_succ_cons, List.take_zero, List.drop_succ_cons, List.drop_zero]
 first | refine jm_y [] rfl rfl (fun w1 hw1 => And.intro rfl (y_loadAgg_hp rfl (hw1.get (by first | exact mem0 | exact mem1 | exact mem2 | exact mem3 | exact mem4 | exact mem5)) (by repeat constructor))) ?_
 refine jm_call [0] rfl rfl (fun w1 hw1 => And.intro rfl ⟨_, _, goes_func rfl, lshown_any (ctOf o) w1⟩) ?_
 first | refine jm_y [] rfl rfl (fun w1 hw1 => And.intro rfl (y_loadAgg_hp rfl (hw1.get (by first | exact mem0 | exact mem1 | exact mem2 | exact mem3 | exact mem4 | exact mem5)) (by repeat constructor))) ?_
 refine jm_call [2] rfl rfl (fun w1 hw1 => And.intro rfl ⟨_, _, goes_func rfl, lshown_any ⟨(ctOf o).chan, o.serial, o.face, o.wins, o.many, (ctOf o).commit, cutS s 40, x0, !o.taken⟩ w1⟩) ?_
 refine jm_m [] rfl rfl (fun w1 hw1 => And.intro rfl (m_alloc)) ?_
 refine jm_m [] rfl rfl (fun w1 hw1 => And.intro rfl (m_alloc)) ?_
 refine jm_nil ?_
 simp only [Ends, List.cons_append, List.nil_append]
 intro b9 b8
 refine jst ?_
 refine jst ?_
 refine jnt ?_
 refine jsr ?_
 refine jpc (goes_func rfl) (fun w1 hw1 => lchan_any w1) ?_
 refine jpc (goes_func rfl) (fun w1 hw1 => lchan_any w1) ?_
 refine jl_fcall rfl (by decide) rfl (goes_func rfl) (fun w1 hw1 => lnew_ok strCh strCh w1 (by decide) (by decide)) (fun b35 => ?_)
 refine jz ?_
 refine jz ?_
 refine jz ?_
 refine jz ?_
 refine jz ?_
 refine jnt ?_
 refine jc_seq ?_
 refine jsr ?_
 refine jz ?_
 refine jy (y_eql_nil rfl rfl) ?_
 refine jl_as (u := .bool false) rfl ?_
 refine jz ?_
 refine jz ?_
 refine jy (y_neq rfl rfl) ?_
 refine jl_prop (fun h42 => ?_) (fun h42 => ?_)
 ·first
  | (exfalso; omega)
  | (
   refine jy (y_pick_false rfl rfl) ?_
   refine jnt ?_
   refine jc_true rfl ?_
   refine jsr ?_
   refine jz ?_
   refine jnt ?_
   refine jc_ret ?_
   refine jq_then_ret ?_
   refine jq_ret1 rfl rfl ?_
   exact fun _ hw => ⟨rfl, hw.ch⟩
   )
 ·first
  | (exfalso; omega)
  | (
   refine jy (y_pick_false rfl rfl) ?_
   refine jnt ?_
   refine jc_false rfl ?_
   refine jc_skip ?_
   refine jq_then ?_
   refine jc_seq ?_
   refine jc_world (fun _ h => ((h.part (.cons del0 (.cons del0 (.cons del0 (.cons del1 (.cons del1 .nil)))))).nilrow 33 9).cast (H' := Bk.r [] none 0 :: Bk.h ⟨strCh, strCh, 1, []⟩ b35 none 0 :: _) rfl) ?_
   refine jc_drop [6] ?_
   refine jc_free (by kernel_rfl) Hp.stay ?_
   first | refine jn_y [] rfl rfl (fun w1 hw1 => And.intro rfl (y_loadAgg_hp rfl (hw1.get (by first | exact mem0 | exact mem1 | exact mem2 | exact mem3 | exact mem4 | exact mem5)) (by repeat constructor))) ?_
   first | refine jn_y [] rfl rfl (fun w1 hw1 => And.intro rfl (y_loadAgg_hp rfl (hw1.get (by first | exact mem0 | exact mem1 | exact mem2 | exact mem3 | exact mem4 | exact mem5)) (by repeat constructor))) ?_
   refine jn_y [0, 1] rfl rfl (fun w1 hw1 => And.intro rfl (y_eql_agg rfl rfl (by kernel_rfl) (fun w => eq_of 9998 _ _ w))) ?_
   refine jn_as (u := .bool true) (congrArg Value.bool (decide_eq_true rfl)) ?_
   refine jn_y [2] rfl rfl (fun w1 hw1 => And.intro rfl (y_move rfl)) ?_
   first | refine jn_y [3] rfl rfl (fun w1 hw1 => And.intro rfl (y_loadAgg_hp rfl (hw1.get (by first | exact mem0 | exact mem1 | exact mem2 | exact mem3 | exact mem4 | exact mem5)) (by repeat constructor))) ?_
   refine jn_y [3] rfl rfl (fun w1 hw1 => And.intro rfl (y_indexAddr_arr rfl rfl (by omega) (by omega) (by simp only [Int.toNat_natCast, Int.reduceSub, Int.reduceAdd, Int.reduceToNat, Nat.reduceMul, Nat.reduceAdd, Nat.zero_add, Nat.mul_one, Nat.zero_mul, Nat.add_zero]; exact rfl))) ?_
   first | refine jn_y [3, 5] rfl rfl (fun w1 hw1 => And.intro rfl (y_load_old rfl (CellAt.of_cells (hw1.get (by first | exact mem0 | exact mem1 | exact mem2 | exact mem3 | exact mem4 | exact mem5)) rfl) (by simp))) ?_
   refine jn_call [3, 4, 6] rfl rfl (fun w1 hw1 => And.intro rfl ⟨_, _, goes_func rfl, lticket_any (shownO (ctOf o)) x1 w1⟩) ?_
   first | refine jn_y [3] rfl rfl (fun w1 hw1 => And.intro rfl (y_loadAgg_hp rfl (hw1.get (by first | exact mem0 | exact mem1 | exact mem2 | exact mem3 | exact mem4 | exact mem5)) (by repeat constructor))) ?_
   refine jn_y [3] rfl rfl (fun w1 hw1 => And.intro rfl (y_indexAddr_arr rfl rfl (by omega) (by omega) (by simp only [Int.toNat_natCast, Int.reduceSub, Int.reduceAdd, Int.reduceToNat, Nat.reduceMul, Nat.reduceAdd, Nat.zero_add, Nat.mul_one, Nat.zero_mul, Nat.add_zero]; exact rfl))) ?_
   first | refine jn_y [3, 9] rfl rfl (fun w1 hw1 => And.intro rfl (y_load_old rfl (CellAt.of_cells (hw1.get (by first | exact mem0 | exact mem1 | exact mem2 | exact mem3 | exact mem4 | exact mem5)) rfl) (by simp))) ?_
   refine jn_call [3, 8, 10] rfl rfl (fun w1 hw1 => And.intro rfl ⟨_, _, goes_func rfl, lticket_any (ctOf o) x1 w1⟩) ?_
   refine jn_y [3, 7, 11] rfl rfl (fun w1 hw1 => And.intro rfl (y_eql_agg rfl rfl (by kernel_rfl) (fun w => eq_tk 9998 _ _ w))) ?_
   refine jn_as (u := .bool true) (congrArg Value.bool (decide_eq_true rfl)) ?_
   refine jn_y [3, 12] rfl rfl (fun w1 hw1 => And.intro rfl (y_pick_true rfl rfl)) ?_
   refine jn_y [13] rfl rfl (fun w1 hw1 => And.intro rfl (y_move rfl)) ?_
   first | refine jn_y [14] rfl rfl (fun w1 hw1 => And.intro rfl (y_loadAgg_hp rfl (hw1.get (by first | exact mem0 | exact mem1 | exact mem2 | exact mem3 | exact mem4 | exact mem5)) (by repeat constructor))) ?_
   refine jn_call [14, 15] rfl rfl (fun w1 hw1 => And.intro rfl ⟨_, _, goes_func rfl, lshown_any (shownO (ctOf o)) w1⟩) ?_
   first | refine jn_y [14] rfl rfl (fun w1 hw1 => And.intro rfl (y_loadAgg_hp rfl (hw1.get (by first | exact mem0 | exact mem1 | exact mem2 | exact mem3 | exact mem4 | exact mem5)) (by repeat constructor))) ?_
   refine jn_y [14, 16, 17] rfl rfl (fun w1 hw1 => And.intro rfl (y_eql_agg rfl rfl (by kernel_rfl) (fun w => eq_of 9998 _ _ w))) ?_
   refine jn_as (u := .bool true) (congrArg Value.bool (decide_eq_true rfl)) ?_
   refine jn_y [14, 18] rfl rfl (fun w1 hw1 => And.intro rfl (y_pick_true rfl rfl)) ?_
   refine jn_y [19] rfl rfl (fun w1 hw1 => And.intro rfl (y_move rfl)) ?_
   refine jn_y [20] rfl rfl (fun w1 hw1 => And.intro rfl (y_move rfl)) ?_
   refine jn_fcall [20, 21] rfl rfl (fun w1 hw1 => And.intro rfl ⟨_, _, goes_func rfl, bk_offers hw1 (show BkIn _ ⟨strCh, strCh, 1, []⟩ b35 none 0 from ⟨mem1, mem0, by decide⟩)⟩) ?_
   refine jn_y [20, 22] rfl rfl (fun w1 hw1 b66 h66 => And.intro rfl (y_len_slice rfl)) ?_
   refine jn_y [20, 23] rfl rfl (fun w1 hw1 => And.intro rfl (y_eql rfl rfl)) ?_
   refine jn_as (u := .bool true) (congrArg Value.bool (decide_eq_true rfl)) ?_
   refine jn_y [20, 24] rfl rfl (fun w1 hw1 => And.intro rfl (y_pick_true rfl rfl)) ?_
   refine jn_y [25] rfl rfl (fun w1 hw1 => And.intro rfl (y_move rfl)) ?_
   refine jn_y [26] rfl rfl (fun w1 hw1 => And.intro rfl (y_move rfl)) ?_
   refine jn_call [26, 27] rfl rfl (fun w1 hw1 => And.intro rfl ⟨_, _, goes_func rfl, bk_open hw1 (show BkIn _ ⟨strCh, strCh, 1, []⟩ b35 none 0 from ⟨mem1, mem0, by decide⟩)⟩) ?_
   refine jn_y [26, 28] rfl rfl (fun w1 hw1 => And.intro rfl (y_eql rfl rfl)) ?_
   refine jn_as (u := .bool true) (congrArg Value.bool (decide_eq_true rfl)) ?_
   refine jn_y [26, 29] rfl rfl (fun w1 hw1 => And.intro rfl (y_pick_true rfl rfl)) ?_
   refine jn_y [30] rfl rfl (fun w1 hw1 => And.intro rfl (y_move rfl)) ?_
   refine jn_call [31] rfl rfl (fun w1 hw1 => And.intro rfl ⟨_, _, goes_func rfl, fixed16_any w1⟩) ?_
   refine jn_y [31, 32] rfl rfl (fun w1 hw1 => And.intro rfl (y_pick_true rfl rfl)) ?_
   refine jn_y [33] rfl rfl (fun w1 hw1 => And.intro rfl (y_assign rfl)) ?_
   refine jn_nil [34] (by decide) (fun w1 hw1 => jq_at hw1 ?_)
   refine jq_then ?_
   refine jc_ret ?_
   refine jq_ret1 rfl rfl ?_
   exact fun _ hw => ⟨rfl, hw.ch⟩
   )

end Go.Proofs.Ytghomncegjamfaa