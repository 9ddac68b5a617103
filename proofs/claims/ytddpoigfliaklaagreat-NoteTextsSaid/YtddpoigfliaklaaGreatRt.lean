/- The walks of the document's answer for signed tickets, and of NoteTexts. Written by program (walk.py) out of a table of contracts and invariants. -/
import Derived.Test.YtddpoigfliaklaaGreatNf
import Derived.Test.YtddpoigfliaklaaGreatRm
namespace Go.Proofs.YtddpoigfliaklaaGreat
open Go.RowKit
set_option maxRecDepth 100000
set_option maxHeartbeats 4000000
set_option linter.unusedVariables false
set_option linter.unusedSimpArgs false

theorem rvouch_any (ch : ByteArray) (a : Int) (w : World) (hs : ch.size ≤ 1000000000) (hfa : fits .u64 a) :
  Calls Tryz.prog 14 #[.string ch, .int .u64 a] w fun e w' => e = .returned (.string (vouch ch a)) ∧ Ch [] w w' := by
 refine calls_of (n := 18) (E := [(0, .string ch), (1, .int .u64 a)]) (W := Hp w [] []) Tryz.func14 rfl rfl (Nat.le_of_ble_eq_true rfl) rfl (Hp.nil _ _) ?_
 refine jsr ?_
 refine jz ?_
 refine jnt ?_
 refine jsr ?_
 refine jy (y_build Built.nil) ?_
 refine jl_m rfl (by decide) rfl (m_box rfl rfl) (fun b7 => ?_)
 refine jz ?_
 refine jnt ?_
 refine jsr ?_
 refine jz ?_
 refine juc (goes_func rfl) (fun w1 hw1 => rwbyte_any b7 (w0) (86) (by simp only [fits]; decide) w1 (wz) hw1) ?_
 refine jnt ?_
 refine jsr ?_
 refine jz ?_
 refine jz ?_
 refine juc (goes_func rfl) (fun w1 hw1 => rwblob_any b7 (wByte (w0) (86)) (ch) (by omega) w1 (wz) hw1) ?_
 refine jnt ?_
 refine jsr ?_
 refine jz ?_
 refine jz ?_
 refine juc (goes_func rfl) (fun w1 hw1 => rwnum_any b7 (wBlob (wByte (w0) (86)) (ch)) (a) hfa w1 (wz) hw1) ?_
 refine jnt ?_
 refine jsr ?_
 refine jz ?_
 refine jpc (goes_func rfl) (fun w1 hw1 => rwtext_any b7 (wNum (wBlob (wByte (w0) (86)) (ch)) (a)) w1 (CellAt.of_cells (hw1.get (A := .cells b7 [.string (wNum (wBlob (wByte (w0) (86)) (ch)) (a)).1, .int .i64 (wNum (wBlob (wByte (w0) (86)) (ch)) (a)).2]) mem0) rfl) (CellAt.of_cells (hw1.get (A := .cells b7 [.string (wNum (wBlob (wByte (w0) (86)) (ch)) (a)).1, .int .i64 (wNum (wBlob (wByte (w0) (86)) (ch)) (a)).2]) mem0) rfl)) ?_
 refine jz ?_
 refine jnt ?_
 refine jc_ret ?_
 refine jq_ret1 rfl rfl ?_
 exact fun _ hw => ⟨rfl, hw.ch⟩

theorem rtext_any (t : Tk) (w : World) (hf : t.Fit) (hc : t.chan.size ≤ 1000000000) (hm : t.commit.size ≤ 1000000000) :
  Calls Tryz.prog 16 #[.agg (Tk.c t).toArray] w fun e w' => e = .returned (.string (tkText t)) ∧ Ch [] w w' := by
 refine calls_of (n := 38) (E := [(0, .agg (Tk.c t).toArray)]) (W := Hp w [] []) Tryz.func16 rfl rfl (Nat.le_of_ble_eq_true rfl) rfl (Hp.nil _ _) ?_
 refine jsr ?_
 refine jl_m rfl (by decide) rfl (m_box rfl rfl) (fun b1 => ?_)
 refine jz ?_
 refine jnt ?_
 refine jsr ?_
 refine jy (y_build Built.nil) ?_
 refine jl_m rfl (by decide) rfl (m_box rfl rfl) (fun b5 => ?_)
 refine jz ?_
 refine jnt ?_
 refine jsr ?_
 refine jz ?_
 refine juc (goes_func rfl) (fun w1 hw1 => rwbyte_any b5 (w0) (84) (by simp only [fits]; decide) w1 (wz) hw1) ?_
 refine jnt ?_
 refine jsr ?_
 refine jz ?_
 refine jz ?_
 refine jz ?_
 refine juc (goes_func rfl) (fun w1 hw1 => rwblob_any b5 (wByte (w0) (84)) (t.chan) (by omega) w1 (wz) hw1) ?_
 refine jnt ?_
 refine jsr ?_
 refine jz ?_
 refine jz ?_
 refine jz ?_
 refine juc (goes_func rfl) (fun w1 hw1 => rwnum_any b5 (wBlob (wByte (w0) (84)) (t.chan)) (t.serial) hf.serial w1 (wz) hw1) ?_
 refine jnt ?_
 refine jsr ?_
 refine jz ?_
 refine jz ?_
 refine jz ?_
 refine juc (goes_func rfl) (fun w1 hw1 => rwnum_any b5 (wNum (wBlob (wByte (w0) (84)) (t.chan)) (t.serial)) (t.face) hf.face w1 (wz) hw1) ?_
 refine jnt ?_
 refine jsr ?_
 refine jz ?_
 refine jz ?_
 refine jz ?_
 refine juc (goes_func rfl) (fun w1 hw1 => rwnum_any b5 (wNum (wNum (wBlob (wByte (w0) (84)) (t.chan)) (t.serial)) (t.face)) (t.wins) hf.wins w1 (wz) hw1) ?_
 refine jnt ?_
 refine jsr ?_
 refine jz ?_
 refine jz ?_
 refine jz ?_
 refine juc (goes_func rfl) (fun w1 hw1 => rwnum_any b5 (wNum (wNum (wNum (wBlob (wByte (w0) (84)) (t.chan)) (t.serial)) (t.face)) (t.wins)) (t.many) hf.many w1 (wz) hw1) ?_
 refine jnt ?_
 refine jsr ?_
 refine jz ?_
 refine jz ?_
 refine jz ?_
 refine juc (goes_func rfl) (fun w1 hw1 => rwblob_any b5 (wNum (wNum (wNum (wNum (wBlob (wByte (w0) (84)) (t.chan)) (t.serial)) (t.face)) (t.wins)) (t.many)) (t.commit) (by omega) w1 (wz) hw1) ?_
 refine jnt ?_
 refine jsr ?_
 refine jz ?_
 refine jz ?_
 refine jz ?_
 refine juc (goes_func rfl) (fun w1 hw1 => rwnum_any b5 (wBlob (wNum (wNum (wNum (wNum (wBlob (wByte (w0) (84)) (t.chan)) (t.serial)) (t.face)) (t.wins)) (t.many)) (t.commit)) (t.client) hf.client w1 (wz) hw1) ?_
 refine jnt ?_
 refine jsr ?_
 refine jz ?_
 refine jpc (goes_func rfl) (fun w1 hw1 => rwtext_any b5 (wNum (wBlob (wNum (wNum (wNum (wNum (wBlob (wByte (w0) (84)) (t.chan)) (t.serial)) (t.face)) (t.wins)) (t.many)) (t.commit)) (t.client)) w1 (CellAt.of_cells (hw1.get (A := .cells b5 [.string (wNum (wBlob (wNum (wNum (wNum (wNum (wBlob (wByte (w0) (84)) (t.chan)) (t.serial)) (t.face)) (t.wins)) (t.many)) (t.commit)) (t.client)).1, .int .i64 (wNum (wBlob (wNum (wNum (wNum (wNum (wBlob (wByte (w0) (84)) (t.chan)) (t.serial)) (t.face)) (t.wins)) (t.many)) (t.commit)) (t.client)).2]) mem0) rfl) (CellAt.of_cells (hw1.get (A := .cells b5 [.string (wNum (wBlob (wNum (wNum (wNum (wNum (wBlob (wByte (w0) (84)) (t.chan)) (t.serial)) (t.face)) (t.wins)) (t.many)) (t.commit)) (t.client)).1, .int .i64 (wNum (wBlob (wNum (wNum (wNum (wNum (wBlob (wByte (w0) (84)) (t.chan)) (t.serial)) (t.face)) (t.wins)) (t.many)) (t.commit)) (t.client)).2]) mem0) rfl)) ?_
 refine jz ?_
 refine jnt ?_
 refine jc_ret ?_
 refine jq_ret1 rfl rfl ?_
 exact fun _ hw => ⟨rfl, hw.ch⟩

theorem rtkmay_any (t : Tk) (w : World) :
  Calls Tryz.prog 39 #[.agg (Tk.c t).toArray] w fun e w' => e = .returned (.bool (tkMay t)) ∧ Ch [] w w' := by
 refine calls_of (n := 19) (E := [(0, .agg (Tk.c t).toArray)]) (W := Hp w [] []) Tryz.func39 rfl rfl (Nat.le_of_ble_eq_true rfl) rfl (Hp.nil _ _) ?_
 refine jsr ?_
 refine jl_m rfl (by decide) rfl (m_box rfl rfl) (fun b1 => ?_)
 refine jz ?_
 refine jnt ?_
 refine jsr ?_
 refine jz ?_
 refine jz ?_
 refine jy (y_len_str rfl) ?_
 refine jy (y_eql rfl rfl) ?_
 refine jl_prop (fun h6 => ?_) (fun h6 => ?_)
 ·first
  | (exfalso; omega)
  | (
   refine jz ?_
   refine jz ?_
   refine jz ?_
   refine jy (y_len_str rfl) ?_
   refine jy (y_eql rfl rfl) ?_
   refine jl_prop (fun h11 => ?_) (fun h11 => ?_)
   ·first
    | (exfalso; omega)
    | (
     refine jy (y_pick_true rfl rfl) ?_
     refine jz ?_
     refine jz ?_
     refine jz ?_
     refine jy (y_len_str rfl) ?_
     refine jy (y_leq rfl rfl) ?_
     refine jy (y_pick_true rfl rfl) ?_
     refine jz ?_
     refine jnt ?_
     refine jc_ret ?_
     refine jq_ret1 rfl rfl ?_
     exact fun _ hw => ⟨congrArg (fun b => Ending.returned (Value.bool b)) (by unfold tkMay; rw [Bool.eq_iff_iff]; simp only [Bool.and_eq_true, decide_eq_true_eq, Bool.false_eq_true, false_iff, true_iff]; omega), hw.ch⟩
     )
   ·first
    | (exfalso; omega)
    | (
     refine jy (y_pick_true rfl rfl) ?_
     refine jz ?_
     refine jsk ?_
     refine jsk ?_
     refine jsk ?_
     refine jsk ?_
     refine jy (y_pick_false rfl rfl) ?_
     refine jz ?_
     refine jnt ?_
     refine jc_ret ?_
     refine jq_ret1 rfl rfl ?_
     exact fun _ hw => ⟨congrArg (fun b => Ending.returned (Value.bool b)) (by unfold tkMay; rw [Bool.eq_iff_iff]; simp only [Bool.and_eq_true, decide_eq_true_eq, Bool.false_eq_true, false_iff, true_iff]; omega), hw.ch⟩
     )
   )
 ·first
  | (exfalso; omega)
  | (
   refine jz ?_
   refine jsk ?_
   refine jsk ?_
   refine jsk ?_
   refine jsk ?_
   refine jy (y_pick_false rfl rfl) ?_
   refine jz ?_
   refine jsk ?_
   refine jsk ?_
   refine jsk ?_
   refine jsk ?_
   refine jy (y_pick_false rfl rfl) ?_
   refine jz ?_
   refine jnt ?_
   refine jc_ret ?_
   refine jq_ret1 rfl rfl ?_
   exact fun _ hw => ⟨congrArg (fun b => Ending.returned (Value.bool b)) (by unfold tkMay; rw [Bool.eq_iff_iff]; simp only [Bool.and_eq_true, decide_eq_true_eq, Bool.false_eq_true, false_iff, true_iff]; omega), hw.ch⟩
   )

theorem rsigned_any (cl : ByteArray) (t : Tk) (w : World) (hf : t.Fit) (hc : t.chan.size ≤ 40000) (hm : t.commit.size ≤ 40000) (hs : t.sig.size ≤ 1000000) :
  Calls Tryz.prog 19 #[.string cl, .agg (Tk.c t).toArray] w fun e w' => e = .returned (.bool (signedB cl t)) ∧ Ch [] w w' := by
 have hts := tkText_small t
 refine calls_of (n := 16) (E := [(0, .string cl), (1, .agg (Tk.c t).toArray)]) (W := Hp w [] []) Tryz.func19 rfl rfl (Nat.le_of_ble_eq_true rfl) rfl (Hp.nil _ _) ?_
 refine jsr ?_
 refine jl_m rfl (by decide) rfl (m_box rfl rfl) (fun b3 => ?_)
 refine jz ?_
 refine jnt ?_
 refine jc_seq ?_
 refine jc_draw (by kernel_rfl) (fun _ h => h.drew) ?_
 refine juz ?_
 refine ju_call rfl (by decide) rfl (goes_func rfl) (fun w1 hw1 => pcall hw1 (rtext_any t w1 hf (by omega) (by omega))) ?_
 refine juy (y_sneq rfl rfl) ?_
 refine ju_bool (fun h7 => ?_) (fun h7 => ?_)
 ·skip
  refine juz ?_
  refine juz ?_
  refine juz ?_
  refine ju_call rfl (by decide) rfl (goes_func rfl) (fun w1 hw1 => pcall hw1 (rtext_any t w1 hf (by omega) (by omega))) ?_
  refine juz ?_
  refine juz ?_
  refine ju_call rfl (by decide) rfl (goes_func rfl) (fun w1 hw1 => pcall hw1 (rverifyK_any _ _ _ w1 (by omega) (by omega))) ?_
  refine juy (y_pick_true rfl rfl) ?_
  refine juz ?_
  refine ju_nil ?_
  refine jq_then ?_
  refine jc_ret ?_
  refine jq_ret1 rfl rfl ?_
  exact fun _ hw => ⟨congrArg (fun b => Ending.returned (Value.bool b)) (by unfold signedB; simp_all), hw.ch⟩
 ·skip
  refine juz ?_
  refine ju_skip rfl (by decide) rfl ?_
  refine ju_skip rfl (by decide) rfl ?_
  refine ju_skip rfl (by decide) rfl ?_
  refine ju_skip rfl (by decide) rfl ?_
  refine ju_skip rfl (by decide) rfl ?_
  refine ju_skip rfl (by decide) rfl ?_
  refine juy (y_pick_false rfl rfl) ?_
  refine juz ?_
  refine ju_nil ?_
  refine jq_then ?_
  refine jc_ret ?_
  refine jq_ret1 rfl rfl ?_
  exact fun _ hw => ⟨congrArg (fun b => Ending.returned (Value.bool b)) (by unfold signedB; simp_all), hw.ch⟩

theorem rwon_any (cl : ByteArray) (x : Wn) (w : World) (hf : x.Fit) (hs : x.salt.size ≤ 1000000) :
  Calls Tryz.prog 11 #[.string cl, .agg (Wn.c x).toArray] w fun e w' => e = .returned (.tuple #[.int .u64 (wonV cl x), .int .i64 (wonE cl x)]) ∧ Ch [] w w' := by
 refine calls_of (n := 50) (E := [(0, .string cl), (1, .agg (Wn.c x).toArray)]) (W := Hp w [] []) Tryz.func11 rfl rfl (Nat.le_of_ble_eq_true rfl) rfl (Hp.nil _ _) ?_
 refine jsr ?_
 refine jl_m rfl (by decide) rfl (m_box rfl rfl) (fun b3 => ?_)
 refine jz ?_
 refine jz ?_
 refine jnt ?_
 refine jsr ?_
 refine jz ?_
 refine jz ?_
 refine jz ?_
 refine jz ?_
 refine jz ?_
 refine jz ?_
 refine jz ?_
 refine jz ?_
 refine jz ?_
 refine jz ?_
 refine jz ?_
 refine jpc (goes_func rfl) (fun w1 hw1 => rwins_any x.drawn x.t.client x.t.wins x.t.many w1 hf.drawn hf.t.client hf.t.wins hf.t.many) ?_
 refine jz ?_
 refine jz ?_
 refine jl_bool (fun h21 => ?_) (fun h21 => ?_)
 ·skip
  refine jz ?_
  refine jz ?_
  refine jz ?_
  refine jnt ?_
  refine jc_seq ?_
  refine jsr ?_
  refine jz ?_
  refine jz ?_
  refine jpc (goes_func rfl) (fun w1 hw1 => rtkmay_any x.t w1) ?_
  refine jl_bool (fun h25 => ?_) (fun h25 => ?_)
  ·skip
   refine jz ?_
   refine jz ?_
   refine jz ?_
   refine jy (y_neq rfl rfl) ?_
   refine jl_prop (fun h29 => ?_) (fun h29 => ?_)
   ·first
    | (exfalso; omega)
    | (
     refine jy (y_pick_false rfl rfl) ?_
     refine jnt ?_
     refine jc_true rfl ?_
     refine jsr ?_
     refine jz ?_
     refine jz ?_
     refine jnt ?_
     refine jc_ret ?_
     refine jq_then_ret ?_
     refine jq_ret2 rfl rfl rfl ?_
     exact fun _ hw => ⟨by have f := won_arg (cl := cl) (x := x) (fun h => by first | omega | simp_all); rw [f.1, f.2] <;> rfl, hw.ch⟩
     )
   ·first
    | (exfalso; omega)
    | (
     refine jy (y_pick_false rfl rfl) ?_
     refine jnt ?_
     refine jc_false rfl ?_
     refine jc_skip ?_
     refine jq_then ?_
     refine jc_seq ?_
     refine jc_seq ?_
     have hmy := tkMay_iff.1 (show tkMay x.t = true by assumption)
     refine jc_region ?_
     refine jz ?_
     refine jz ?_
     refine jz ?_
     refine jpc (goes_func rfl) (fun w1 hw1 => rsigned_any cl x.t w1 hf.t (by omega) (by omega) (by omega)) ?_
     refine jl_bool (fun h34 => ?_) (fun h34 => ?_)
     ·skip
      refine jz ?_
      refine jnt ?_
      refine jc_false rfl ?_
      refine jc_skip ?_
      refine jq_then ?_
      refine jc_seq ?_
      refine jc_seq ?_
      refine jc_draw (by kernel_rfl) (fun _ h => h.drew) ?_
      refine juz ?_
      refine juz ?_
      refine juz ?_
      refine juz ?_
      refine juz ?_
      refine juz ?_
      refine juz ?_
      refine ju_call rfl (by decide) rfl (goes_func rfl) (fun w1 hw1 => pcall hw1 (rcommit_any x.salt x.drawn w1 hs hf.drawn)) ?_
      refine juy (y_sneq rfl rfl) ?_
      refine ju_bool (fun h44 => ?_) (fun h44 => ?_)
      ·skip
       refine ju_nil ?_
       refine jq_then ?_
       refine jc_true rfl ?_
       refine jsr ?_
       refine jz ?_
       refine jz ?_
       refine jnt ?_
       refine jc_ret ?_
       refine jq_then_ret ?_
       refine jq_ret2 rfl rfl rfl ?_
       exact fun _ hw => ⟨by have f := won_form (cl := cl) (x := x) ⟨by assumption, by omega⟩ (by assumption) (by first | assumption | exact decide_eq_false (by assumption) | simp_all); rw [f.1, f.2] <;> rfl, hw.ch⟩
      ·skip
       refine ju_nil ?_
       refine jq_then ?_
       refine jc_false rfl ?_
       refine jc_skip ?_
       refine jq_then ?_
       refine jc_seq ?_
       refine jsr ?_
       refine jz ?_
       refine jz ?_
       refine jnt ?_
       refine jc_false rfl ?_
       refine jc_skip ?_
       refine jq_then ?_
       refine jsr ?_
       refine jz ?_
       refine jz ?_
       refine jz ?_
       refine jz ?_
       refine jz ?_
       refine jnt ?_
       refine jc_ret ?_
       refine jq_ret2 rfl rfl rfl ?_
       exact fun _ hw => ⟨by have f := won_ok (cl := cl) (x := x) ⟨by assumption, by omega⟩ (by assumption) (by first | assumption | exact decide_eq_true (by assumption) | simp_all) (by simp_all); rw [f.1, f.2] <;> rfl, hw.ch⟩
     ·skip
      refine jz ?_
      refine jnt ?_
      refine jc_true rfl ?_
      refine jsr ?_
      refine jz ?_
      refine jz ?_
      refine jnt ?_
      refine jc_ret ?_
      refine jq_then_ret ?_
      refine jq_ret2 rfl rfl rfl ?_
      exact fun _ hw => ⟨by have f := won_sig (cl := cl) (x := x) ⟨by assumption, by omega⟩ (by assumption); rw [f.1, f.2] <;> rfl, hw.ch⟩
     )
  ·skip
   refine jz ?_
   refine jz ?_
   refine jsk ?_
   refine jsk ?_
   refine jy (y_pick_true rfl rfl) ?_
   refine jnt ?_
   refine jc_true rfl ?_
   refine jsr ?_
   refine jz ?_
   refine jz ?_
   refine jnt ?_
   refine jc_ret ?_
   refine jq_then_ret ?_
   refine jq_ret2 rfl rfl rfl ?_
   exact fun _ hw => ⟨by have f := won_arg (cl := cl) (x := x) (fun h => by first | omega | simp_all); rw [f.1, f.2] <;> rfl, hw.ch⟩
 ·skip
  refine jz ?_
  refine jz ?_
  refine jz ?_
  refine jnt ?_
  refine jc_seq ?_
  refine jsr ?_
  refine jz ?_
  refine jz ?_
  refine jpc (goes_func rfl) (fun w1 hw1 => rtkmay_any x.t w1) ?_
  refine jl_bool (fun h25 => ?_) (fun h25 => ?_)
  ·skip
   refine jz ?_
   refine jz ?_
   refine jz ?_
   refine jy (y_neq rfl rfl) ?_
   refine jl_prop (fun h29 => ?_) (fun h29 => ?_)
   ·first
    | (exfalso; omega)
    | (
     refine jy (y_pick_false rfl rfl) ?_
     refine jnt ?_
     refine jc_true rfl ?_
     refine jsr ?_
     refine jz ?_
     refine jz ?_
     refine jnt ?_
     refine jc_ret ?_
     refine jq_then_ret ?_
     refine jq_ret2 rfl rfl rfl ?_
     exact fun _ hw => ⟨by have f := won_arg (cl := cl) (x := x) (fun h => by first | omega | simp_all); rw [f.1, f.2] <;> rfl, hw.ch⟩
     )
   ·first
    | (exfalso; omega)
    | (
     refine jy (y_pick_false rfl rfl) ?_
     refine jnt ?_
     refine jc_false rfl ?_
     refine jc_skip ?_
     refine jq_then ?_
     refine jc_seq ?_
     refine jc_seq ?_
     have hmy := tkMay_iff.1 (show tkMay x.t = true by assumption)
     refine jc_region ?_
     refine jz ?_
     refine jz ?_
     refine jz ?_
     refine jpc (goes_func rfl) (fun w1 hw1 => rsigned_any cl x.t w1 hf.t (by omega) (by omega) (by omega)) ?_
     refine jl_bool (fun h34 => ?_) (fun h34 => ?_)
     ·skip
      refine jz ?_
      refine jnt ?_
      refine jc_false rfl ?_
      refine jc_skip ?_
      refine jq_then ?_
      refine jc_seq ?_
      refine jc_seq ?_
      refine jc_draw (by kernel_rfl) (fun _ h => h.drew) ?_
      refine juz ?_
      refine juz ?_
      refine juz ?_
      refine juz ?_
      refine juz ?_
      refine juz ?_
      refine juz ?_
      refine ju_call rfl (by decide) rfl (goes_func rfl) (fun w1 hw1 => pcall hw1 (rcommit_any x.salt x.drawn w1 hs hf.drawn)) ?_
      refine juy (y_sneq rfl rfl) ?_
      refine ju_bool (fun h44 => ?_) (fun h44 => ?_)
      ·skip
       refine ju_nil ?_
       refine jq_then ?_
       refine jc_true rfl ?_
       refine jsr ?_
       refine jz ?_
       refine jz ?_
       refine jnt ?_
       refine jc_ret ?_
       refine jq_then_ret ?_
       refine jq_ret2 rfl rfl rfl ?_
       exact fun _ hw => ⟨by have f := won_form (cl := cl) (x := x) ⟨by assumption, by omega⟩ (by assumption) (by first | assumption | exact decide_eq_false (by assumption) | simp_all); rw [f.1, f.2] <;> rfl, hw.ch⟩
      ·skip
       refine ju_nil ?_
       refine jq_then ?_
       refine jc_false rfl ?_
       refine jc_skip ?_
       refine jq_then ?_
       refine jc_seq ?_
       refine jsr ?_
       refine jz ?_
       refine jz ?_
       refine jnt ?_
       refine jc_true rfl ?_
       refine jsr ?_
       refine jz ?_
       refine jz ?_
       refine jnt ?_
       refine jc_ret ?_
       refine jq_then_ret ?_
       refine jq_ret2 rfl rfl rfl ?_
       exact fun _ hw => ⟨by have f := won_rule (cl := cl) (x := x) ⟨by assumption, by omega⟩ (by assumption) (by first | assumption | exact decide_eq_true (by assumption) | simp_all) (by simp_all); rw [f.1, f.2] <;> rfl, hw.ch⟩
     ·skip
      refine jz ?_
      refine jnt ?_
      refine jc_true rfl ?_
      refine jsr ?_
      refine jz ?_
      refine jz ?_
      refine jnt ?_
      refine jc_ret ?_
      refine jq_then_ret ?_
      refine jq_ret2 rfl rfl rfl ?_
      exact fun _ hw => ⟨by have f := won_sig (cl := cl) (x := x) ⟨by assumption, by omega⟩ (by assumption); rw [f.1, f.2] <;> rfl, hw.ch⟩
     )
  ·skip
   refine jz ?_
   refine jz ?_
   refine jsk ?_
   refine jsk ?_
   refine jy (y_pick_true rfl rfl) ?_
   refine jnt ?_
   refine jc_true rfl ?_
   refine jsr ?_
   refine jz ?_
   refine jz ?_
   refine jnt ?_
   refine jc_ret ?_
   refine jq_then_ret ?_
   refine jq_ret2 rfl rfl rfl ?_
   exact fun _ hw => ⟨by have f := won_arg (cl := cl) (x := x) (fun h => by first | omega | simp_all); rw [f.1, f.2] <;> rfl, hw.ch⟩

theorem reftk_any (t : Tk) (w : World) :
  Calls Tryz.prog 17 #[.agg (Tk.c t).toArray] w fun e w' => e = .returned (.agg (Tk.c t).toArray) ∧ Ch [] w w' := by
 refine calls_of (n := 20) (E := [(0, .agg (Tk.c t).toArray)]) (W := Hp w [] []) Tryz.func17 rfl rfl (Nat.le_of_ble_eq_true rfl) rfl (Hp.nil _ _) ?_
 refine jsr ?_
 refine jl_m rfl (by decide) rfl (m_box rfl rfl) (fun b1 => ?_)
 refine jl_m rfl (by decide) rfl (m_alloc) (fun b2 => ?_)
 refine jnt ?_
 refine jsr ?_
 refine jz ?_
 refine jz ?_
 refine jz ?_
 refine jz ?_
 refine jz ?_
 refine jz ?_
 refine jz ?_
 refine jz ?_
 refine jz ?_
 refine jz ?_
 refine jz ?_
 refine jz ?_
 refine jz ?_
 refine jz ?_
 refine jz ?_
 refine jz ?_
 refine jy (y_build (Built.cell rfl rfl rfl (by repeat constructor) (Built.cell rfl rfl rfl (by repeat constructor) (Built.cell rfl rfl rfl (by repeat constructor) (Built.cell rfl rfl rfl (by repeat constructor) (Built.cell rfl rfl rfl (by repeat constructor) (Built.cell rfl rfl rfl (by repeat constructor) (Built.cell rfl rfl rfl (by repeat constructor) (Built.cell rfl rfl rfl (by repeat constructor) Built.nil))))))))) ?_
 refine jst ?_
 refine jnt ?_
 refine jc_ret ?_
 refine jq_res (.inl rfl) rfl (.cell rfl (by first | exact ld_agg (by first | exact mem0 | exact mem1 | exact mem2 | exact mem3 | exact mem4 | exact mem5) (by repeat constructor) | exact ld_agg (by first | exact mem0 | exact mem1 | exact mem2 | exact mem3 | exact mem4 | exact mem5) (by assumption)) .nil) ?_
 exact fun _ hw => ⟨rfl, hw.ch⟩

theorem refwn_any (x : Wn) (w : World) :
  Calls Tryz.prog 12 #[.agg (Wn.c x).toArray] w fun e w' => e = .returned (.agg (Wn.c x).toArray) ∧ Ch [] w w' := by
 refine calls_of (n := 11) (E := [(0, .agg (Wn.c x).toArray)]) (W := Hp w [] []) Tryz.func12 rfl rfl (Nat.le_of_ble_eq_true rfl) rfl (Hp.nil _ _) ?_
 refine jsr ?_
 refine jl_m rfl (by decide) rfl (m_box rfl rfl) (fun b1 => ?_)
 refine jl_m rfl (by decide) rfl (m_alloc) (fun b2 => ?_)
 refine jnt ?_
 refine jc_seq ?_
 refine jc_tail 8 (by kernel_rfl) (fun _ h => h.drew) ?_
 simp only [List.take_succ_cons, List.take_zero, List.drop_succ_cons, List.drop_zero]
 refine jtz ?_
 refine jtz ?_
 refine jt_call rfl (by decide) rfl (goes_func rfl) (fun w1 hw1 => pcall hw1 (reftk_any x.t w1)) ?_
 refine jtz ?_
 refine jtz ?_
 refine jtz ?_
 refine jtz ?_
 refine jty (y_build (Built.agg rfl rfl rfl (by repeat constructor) (Built.cell rfl rfl rfl (by repeat constructor) (Built.cell rfl rfl rfl (by repeat constructor) Built.nil)))) ?_
 refine jt_nil ?_
 refine jst ?_
 refine jnt ?_
 refine jc_ret ?_
 refine jq_res (.inl rfl) rfl (.cell rfl (by first | exact ld_agg (by first | exact mem0 | exact mem1 | exact mem2 | exact mem3 | exact mem4 | exact mem5) (by repeat constructor) | exact ld_agg (by first | exact mem0 | exact mem1 | exact mem2 | exact mem3 | exact mem4 | exact mem5) (by assumption)) .nil) ?_
 exact fun _ hw => ⟨rfl, hw.ch⟩

theorem noteTexts_any (cl : ByteArray) (x0 : Wn) (a : Int) (w : World) (hf0 : x0.Fit) (ha : fits .u64 a) :
  Calls Tryz.prog 3 #[.string cl, .agg (Wn.c x0).toArray, .int .u64 a] w fun e w' => e = .returned (.bool true) ∧ Ch [] w w' := by
 have hf := ctWn_fit hf0
 have z1 := cutS_size x0.t.chan 40
 have z2 := cutS_size x0.t.commit 40
 have z3 := cutS_size x0.t.sig 450
 have z4 := cutS_size x0.salt 40
 have q1 : (ctWn x0).t.chan.size ≤ 40 := z1
 have q2 : (ctWn x0).t.commit.size ≤ 40 := z2
 have q3 : (ctWn x0).t.sig.size ≤ 450 := z3
 have q4 : (ctWn x0).salt.size ≤ 40 := z4
 refine calls_of (n := 72) (E := [(0, .string cl), (1, .agg (Wn.c x0).toArray), (2, .int .u64 a)]) (W := Hp w [] []) Tryz.func3 rfl rfl (Nat.le_of_ble_eq_true rfl) rfl (Hp.nil _ _) ?_
 refine jsr ?_
 refine jl_m rfl (by decide) rfl (m_box rfl rfl) (fun b4 => ?_)
 refine jz ?_
 refine jnt ?_
 refine jsr ?_
 refine jz ?_
 refine jpc (goes_func rfl) (fun w1 hw1 => cutwn_any x0 w1) ?_
 refine jst ?_
 refine jnt ?_
 refine jc_seq ?_
 obtain ⟨x, hx⟩ : ∃ x, ctWn x0 = x := ⟨_, rfl⟩
 refine jc_world (fun _ h => h.cast (H' := [.cells b4 (Wn.c x)]) (by rw [← hx] <;> rfl)) ?_
 rw [hx] at hf q1 q2 q3 q4
 refine jc_region ?_
 refine jz ?_
 refine jz ?_
 refine jpc (goes_func rfl) (fun w1 hw1 => won_any cl x w1 hf (by omega)) ?_
 refine jz ?_
 refine jz ?_
 refine jz ?_
 refine jz ?_
 refine jz ?_
 refine jnt ?_
 refine jsr ?_
 refine jz ?_
 refine jz ?_
 refine jpc (goes_func rfl) (fun w1 hw1 => refwn_any x w1) ?_
 refine jpc (goes_func rfl) (fun w1 hw1 => rwon_any cl x w1 hf (by omega)) ?_
 refine jz ?_
 refine jz ?_
 refine jz ?_
 refine jz ?_
 refine jz ?_
 refine jnt ?_
 refine jc_seq ?_
 refine jc_draw (by kernel_rfl) (fun _ h => h.drew) ?_
 refine juz ?_
 refine juz ?_
 refine juz ?_
 refine juz ?_
 refine ju_call rfl (by decide) rfl (goes_func rfl) (fun w1 hw1 => pcall hw1 (vouch_any x.t.chan a w1 (by omega) ha)) ?_
 refine juz ?_
 refine juz ?_
 refine juz ?_
 refine juz ?_
 refine ju_call rfl (by decide) rfl (goes_func rfl) (fun w1 hw1 => pcall hw1 (rvouch_any x.t.chan a w1 (by omega) ha)) ?_
 refine juy (y_seql rfl rfl) ?_
 refine ju_as (u := .bool true) (congrArg (fun b => Value.bool b) (decide_eq_true (rfl))) ?_
 refine juz ?_
 refine juz ?_
 refine juz ?_
 refine ju_call rfl (by decide) rfl (goes_func rfl) (fun w1 hw1 => pcall hw1 (text_any x.t w1 hf.t (by omega) (by omega))) ?_
 refine juz ?_
 refine juz ?_
 refine ju_call rfl (by decide) rfl (goes_func rfl) (fun w1 hw1 => pcall hw1 (reftk_any x.t w1)) ?_
 refine ju_call rfl (by decide) rfl (goes_func rfl) (fun w1 hw1 => pcall hw1 (rtext_any x.t w1 hf.t (by omega) (by omega))) ?_
 refine juy (y_seql rfl rfl) ?_
 refine ju_as (u := .bool true) (congrArg (fun b => Value.bool b) (decide_eq_true (rfl))) ?_
 refine juy (y_pick_true rfl rfl) ?_
 refine juz ?_
 refine juz ?_
 refine juz ?_
 refine juz ?_
 refine ju_call rfl (by decide) rfl (goes_func rfl) (fun w1 hw1 => pcall hw1 (signed_any cl x.t w1 hf.t (by omega) (by omega) (by omega))) ?_
 refine juz ?_
 refine juz ?_
 refine juz ?_
 refine ju_call rfl (by decide) rfl (goes_func rfl) (fun w1 hw1 => pcall hw1 (reftk_any x.t w1)) ?_
 refine ju_call rfl (by decide) rfl (goes_func rfl) (fun w1 hw1 => pcall hw1 (rsigned_any cl x.t w1 hf.t (by omega) (by omega) (by omega))) ?_
 refine juy (y_eql_bool rfl rfl) ?_
 refine ju_as (u := .bool true) (congrArg Value.bool (beq_self_eq_true _)) ?_
 refine juy (y_pick_true rfl rfl) ?_
 refine juz ?_
 refine juz ?_
 refine juz ?_
 refine juy (y_eql rfl rfl) ?_
 refine ju_as (u := .bool true) (congrArg Value.bool (decide_eq_true rfl)) ?_
 refine juy (y_pick_true rfl rfl) ?_
 refine juz ?_
 refine juz ?_
 refine juz ?_
 refine juy (y_eql rfl rfl) ?_
 refine ju_as (u := .bool true) (congrArg Value.bool (decide_eq_true rfl)) ?_
 refine juy (y_pick_true rfl rfl) ?_
 refine juz ?_
 refine ju_call rfl (by decide) rfl (goes_func rfl) (fun w1 hw1 => pcall hw1 (fixed8_any w1)) ?_
 refine juy (y_pick_true rfl rfl) ?_
 refine juz ?_
 refine ju_nil ?_
 refine jq_then ?_
 refine jc_ret ?_
 refine jq_ret1 rfl rfl ?_
 exact fun _ hw => ⟨rfl, hw.ch⟩

end Go.Proofs.YtddpoigfliaklaaGreat