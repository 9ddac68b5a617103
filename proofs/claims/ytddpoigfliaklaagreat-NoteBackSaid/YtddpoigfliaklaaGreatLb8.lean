/- The walk of NoteBack. Written by program (walk.py) out of a table of contracts and invariants. -/
import Derived.Test.YtddpoigfliaklaaGreatNf
namespace Go.Proofs.YtddpoigfliaklaaGreat
open Go.RowKit
set_option maxRecDepth 100000
set_option maxHeartbeats 4000000
set_option linter.unusedVariables false
set_option linter.unusedSimpArgs false
theorem pfEnc_ne (p : Pf) : decide (pfEnc p = ⟨#[]⟩) = !pfRight p := by
  cases h : pfRight p
  · unfold pfEnc; rw [if_neg (by rw [h]; simp)]; decide
  · rw [pfEnc_add h]
    simp only [Bool.not_true, decide_eq_false_iff_not]
    intro e
    have h2 := congrArg ByteArray.size e
    unfold pfBy at h2
    simp only [ByteArray.size_append, putS_size] at h2
    have e2 : (⟨#[]⟩ : ByteArray).size = 0 := rfl
    omega
theorem pfDec_fit (S : ByteArray) : (pfDec S).Fit := by
  unfold pfDec
  split
  · exact ⟨nuV_range _ _, rdWins_fit _ _ _⟩
  · exact pf0_fit
theorem pfDec_len (S : ByteArray) : (pfDec S).wins.length ≤ 4 := by
  unfold pfDec
  split
  · exact rdPf_len rfl
  · decide

theorem noteBack_any (p : Pf) (ad : Option Addr) (c : Nat) (s : ByteArray) (w : World) (hf : p.Fit) (hE : ElAt w ad 10 (p.wins.map Wn.c)) :
  Calls Tryz.prog 5 #[.agg (Pf.c p ad c).toArray, .string s] w fun e w' => e = .returned (.bool true) ∧ Ch [] w w' := by
 have hcf := ctPf_fit hf
 have hxs := pfEnc_size (ctPf p)
 have hss := cutS_size s 3000
 refine calls_of (n := 63) (E := [(0, .agg (Pf.c p ad c).toArray), (1, .string s)]) (W := Hp w [] []) Tryz.func5 rfl rfl (Nat.le_of_ble_eq_true rfl) rfl (Hp.nil _ _) ?_
 refine jsr ?_
 refine jl_m rfl (by decide) rfl (m_box rfl rfl) (fun b2 => ?_)
 refine jz ?_
 refine jnt ?_
 refine jsr ?_
 refine jz ?_
 refine jl_fcall rfl (by decide) rfl (goes_func rfl) (fun w1 hw1 => cutpf_any p ad c w1 (hE.keep hw1)) (fun q => ?_)
 refine jst ?_
 refine jnt ?_
 refine jc_seq ?_
 refine jc_world (fun _ h => h.cast (H' := [.row q.1 (ctPf p).wins.length q.2 26 10 ((ctPf p).wins.flatMap Wn.c), .cells b2 (Pf.c (ctPf p) q.1 q.2)]) rfl) ?_
 refine jc_region ?_
 refine jz ?_
 refine jz ?_
 refine jy (y_len_str rfl) ?_
 refine jy (y_min rfl rfl) ?_
 refine jy (y_substr_hi rfl rfl (by omega) (by omega)) ?_
 refine jl_as (congrArg Value.string (cut_eq _ 3000)) ?_
 refine jz ?_
 refine jnt ?_
 refine jsr ?_
 refine jz ?_
 refine jpc (goes_func rfl) (fun w1 hw1 => enc_any (ctPf p) q.1 q.2 w1 (ElAt.of_row wn_len rfl (hw1.get mem0)) hcf (by have := ctPf_len p; omega)) ?_
 refine jz ?_
 refine jnt ?_
 refine jsr ?_
 refine jz ?_
 refine jl_fcall rfl (by decide) rfl (goes_func rfl) (fun w1 hw1 => dec_any (pfEnc (ctPf p)) w1 (by omega)) (fun d1 => ?_)
 refine jz ?_
 refine jz ?_
 refine jz ?_
 refine jl_m rfl (by decide) rfl (m_alloc) (fun b6 => ?_)
 refine jst ?_
 refine jz ?_
 refine jnt ?_
 refine jc_seq ?_
 refine jc_seq ?_
 refine jc_world (fun _ h => h.cast (H' := [.cells b6 (Pf.c (pfDec (pfEnc (ctPf p))) d1.1 d1.2), .row d1.1 (pfDec (pfEnc (ctPf p))).wins.length d1.2 26 10 ((pfDec (pfEnc (ctPf p))).wins.flatMap Wn.c), .row q.1 (ctPf p).wins.length q.2 26 10 ((ctPf p).wins.flatMap Wn.c), .cells b2 (Pf.c (ctPf p) q.1 q.2)]) rfl) ?_
 cases hr : pfRight (ctPf p)
 ·skip
  refine jc_region ?_
  refine jz ?_
  refine jpc (goes_func rfl) (fun w1 hw1 => right_any (ctPf p) q.1 q.2 w1 (ElAt.of_row wn_len rfl (hw1.get mem2)) (by have := ctPf_len p; omega)) ?_
  refine jl_as (u := .bool false) (congrArg Value.bool (hr)) ?_
  refine jz ?_
  refine jy (y_sneq rfl rfl) ?_
  refine jl_as (u := .bool false) (congrArg Value.bool (by rw [pfEnc_ne, hr]; rfl)) ?_
  refine jy (y_neq_bool rfl rfl) ?_
  refine jl_as (u := .bool false) rfl ?_
  refine jz ?_
  refine jz ?_
  refine jy (y_sneq rfl rfl) ?_
  refine jl_as (u := .bool false) (congrArg Value.bool (by rw [pfEnc_ne, hr]; rfl)) ?_
  refine jz ?_
  refine jsk ?_
  refine jsk ?_
  refine jsk ?_
  refine jsk ?_
  refine jsk ?_
  refine jsk ?_
  refine jsk ?_
  refine jsk ?_
  refine jy (y_pick_false rfl rfl) ?_
  refine jy (y_pick_false rfl rfl) ?_
  refine jnt ?_
  refine jc_false rfl ?_
  refine jc_skip ?_
  refine jq_then ?_
  refine jsr ?_
  refine jz ?_
  refine jl_fcall rfl (by decide) rfl (goes_func rfl) (fun w1 hw1 => dec_any (cutS s 3000) w1 (by omega)) (fun d2 => ?_)
  refine jz ?_
  refine jz ?_
  refine jz ?_
  refine jl_m rfl (by decide) rfl (m_alloc) (fun b8 => ?_)
  refine jst ?_
  refine jz ?_
  refine jnt ?_
  refine jc_seq ?_
  refine jc_world (fun _ h => h.part (F := [.cells b8 (Pf.c (pfDec (cutS s 3000)) d2.1 d2.2), .row d2.1 (pfDec (cutS s 3000)).wins.length d2.2 26 10 ((pfDec (cutS s 3000)).wins.flatMap Wn.c)]) (.cons del0 (.cons del0 .nil))) ?_
  refine jc_region ?_
  refine jz ?_
  refine jy (y_neq rfl rfl) ?_
  refine jl_prop (fun h49 => ?_) (fun h49 => ?_)
  ·first
   | (exfalso; omega)
   | (
    refine jz ?_
    refine jsk ?_
    refine jsk ?_
    refine jsk ?_
    refine jsk ?_
    refine jsk ?_
    refine jsk ?_
    refine jsk ?_
    refine jsk ?_
    refine jy (y_pick_true rfl rfl) ?_
    refine jz ?_
    refine jpc (goes_func rfl) (fun w1 hw1 => fixed8_any w1) ?_
    refine jy (y_pick_true rfl rfl) ?_
    refine jz ?_
    refine jnt ?_
    refine jc_ret ?_
    refine jq_ret1 rfl rfl ?_
    exact fun _ hw => ⟨rfl, hw.ch⟩
    )
  ·first
   | (exfalso; omega)
   | (
    refine jz ?_
    refine jz ?_
    refine jpc (goes_func rfl) (fun w1 hw1 => cq (right_any (pfDec (cutS s 3000)) d2.1 d2.2 w1 (ElAt.of_row wn_len rfl (hw1.get mem1)) (by have := pfDec_len ((cutS s 3000)); omega)) (congrArg Value.bool (pfEnc_dec (S := (cutS s 3000)) (Decidable.not_not.1 h49)).1)) ?_
    refine jz ?_
    refine jz ?_
    refine jpc (goes_func rfl) (fun w1 hw1 => enc_any (pfDec (cutS s 3000)) d2.1 d2.2 w1 (ElAt.of_row wn_len rfl (hw1.get mem1)) (pfDec_fit _) (by have := pfDec_len ((cutS s 3000)); omega)) ?_
    refine jz ?_
    refine jy (y_seql rfl rfl) ?_
    refine jl_as (u := .bool true) (congrArg (fun b => Value.bool b) (decide_eq_true ((pfEnc_dec (S := (cutS s 3000)) (Decidable.not_not.1 h49)).2))) ?_
    refine jy (y_pick_true rfl rfl) ?_
    refine jy (y_pick_false rfl rfl) ?_
    refine jz ?_
    refine jpc (goes_func rfl) (fun w1 hw1 => fixed8_any w1) ?_
    refine jy (y_pick_true rfl rfl) ?_
    refine jz ?_
    refine jnt ?_
    refine jc_ret ?_
    refine jq_ret1 rfl rfl ?_
    exact fun _ hw => ⟨rfl, hw.ch⟩
    )
 ·skip
  refine jc_region ?_
  refine jz ?_
  refine jpc (goes_func rfl) (fun w1 hw1 => right_any (ctPf p) q.1 q.2 w1 (ElAt.of_row wn_len rfl (hw1.get mem2)) (by have := ctPf_len p; omega)) ?_
  refine jl_as (u := .bool true) (congrArg Value.bool (hr)) ?_
  refine jz ?_
  refine jy (y_sneq rfl rfl) ?_
  refine jl_as (u := .bool true) (congrArg Value.bool (by rw [pfEnc_ne, hr]; rfl)) ?_
  refine jy (y_neq_bool rfl rfl) ?_
  refine jl_as (u := .bool false) rfl ?_
  refine jz ?_
  refine jz ?_
  refine jy (y_sneq rfl rfl) ?_
  refine jl_as (u := .bool true) (congrArg Value.bool (by rw [pfEnc_ne, hr]; rfl)) ?_
  refine jz ?_
  refine jz ?_
  refine jy (y_neq rfl rfl) ?_
  refine jl_as (u := .bool false) (congrArg Value.bool (decide_eq_false (fun h => h (pfDec_enc hr hcf).1))) ?_
  refine jz ?_
  refine jz ?_
  refine jz ?_
  refine jpc (goes_func rfl) (fun w1 hw1 => cq (same_any (ctPf p) (pfDec (pfEnc (ctPf p))) q.1 d1.1 q.2 d1.2 w1 (ElAt.of_row wn_len rfl (hw1.get mem2)) (ElAt.of_row wn_len rfl (hw1.get mem1)) (by have := ctPf_len p; omega) (by have := pfDec_len ((pfEnc (ctPf p))); omega)) (congrArg Value.bool (decide_eq_true (pfDec_enc hr hcf).2.symm))) ?_
  refine jz ?_
  refine jy (y_pick_false rfl rfl) ?_
  refine jy (y_pick_true rfl rfl) ?_
  refine jy (y_pick_false rfl rfl) ?_
  refine jnt ?_
  refine jc_false rfl ?_
  refine jc_skip ?_
  refine jq_then ?_
  refine jsr ?_
  refine jz ?_
  refine jl_fcall rfl (by decide) rfl (goes_func rfl) (fun w1 hw1 => dec_any (cutS s 3000) w1 (by omega)) (fun d2 => ?_)
  refine jz ?_
  refine jz ?_
  refine jz ?_
  refine jl_m rfl (by decide) rfl (m_alloc) (fun b8 => ?_)
  refine jst ?_
  refine jz ?_
  refine jnt ?_
  refine jc_seq ?_
  refine jc_world (fun _ h => h.part (F := [.cells b8 (Pf.c (pfDec (cutS s 3000)) d2.1 d2.2), .row d2.1 (pfDec (cutS s 3000)).wins.length d2.2 26 10 ((pfDec (cutS s 3000)).wins.flatMap Wn.c)]) (.cons del0 (.cons del0 .nil))) ?_
  refine jc_region ?_
  refine jz ?_
  refine jy (y_neq rfl rfl) ?_
  refine jl_prop (fun h49 => ?_) (fun h49 => ?_)
  ·first
   | (exfalso; omega)
   | (
    refine jz ?_
    refine jsk ?_
    refine jsk ?_
    refine jsk ?_
    refine jsk ?_
    refine jsk ?_
    refine jsk ?_
    refine jsk ?_
    refine jsk ?_
    refine jy (y_pick_true rfl rfl) ?_
    refine jz ?_
    refine jpc (goes_func rfl) (fun w1 hw1 => fixed8_any w1) ?_
    refine jy (y_pick_true rfl rfl) ?_
    refine jz ?_
    refine jnt ?_
    refine jc_ret ?_
    refine jq_ret1 rfl rfl ?_
    exact fun _ hw => ⟨rfl, hw.ch⟩
    )
  ·first
   | (exfalso; omega)
   | (
    refine jz ?_
    refine jz ?_
    refine jpc (goes_func rfl) (fun w1 hw1 => cq (right_any (pfDec (cutS s 3000)) d2.1 d2.2 w1 (ElAt.of_row wn_len rfl (hw1.get mem1)) (by have := pfDec_len ((cutS s 3000)); omega)) (congrArg Value.bool (pfEnc_dec (S := (cutS s 3000)) (Decidable.not_not.1 h49)).1)) ?_
    refine jz ?_
    refine jz ?_
    refine jpc (goes_func rfl) (fun w1 hw1 => enc_any (pfDec (cutS s 3000)) d2.1 d2.2 w1 (ElAt.of_row wn_len rfl (hw1.get mem1)) (pfDec_fit _) (by have := pfDec_len ((cutS s 3000)); omega)) ?_
    refine jz ?_
    refine jy (y_seql rfl rfl) ?_
    refine jl_as (u := .bool true) (congrArg (fun b => Value.bool b) (decide_eq_true ((pfEnc_dec (S := (cutS s 3000)) (Decidable.not_not.1 h49)).2))) ?_
    refine jy (y_pick_true rfl rfl) ?_
    refine jy (y_pick_false rfl rfl) ?_
    refine jz ?_
    refine jpc (goes_func rfl) (fun w1 hw1 => fixed8_any w1) ?_
    refine jy (y_pick_true rfl rfl) ?_
    refine jz ?_
    refine jnt ?_
    refine jc_ret ?_
    refine jq_ret1 rfl rfl ?_
    exact fun _ hw => ⟨rfl, hw.ch⟩
    )

end Go.Proofs.YtddpoigfliaklaaGreat