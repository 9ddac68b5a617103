/- The walks of the document's answer for notes: reading, likeness; and of the law's turning into it. Written by program (walk.py) out of a table of contracts and invariants. -/
import Derived.Test.YtddpoigfliaklaaGreatNp
import Derived.Test.YtddpoigfliaklaaGreatCq
namespace Go.Proofs.YtddpoigfliaklaaGreat
open Go.RowKit
set_option maxRecDepth 100000
set_option maxHeartbeats 2000000
set_option linter.unusedVariables false
set_option linter.unusedSimpArgs false

theorem eq_rtk (m : Nat) (x y : Tk) (w : World) : (Op.equalIn (m + 2) 32 (.agg (Tk.c x).toArray) (.agg (Tk.c y).toArray)).run Tryz.prog w = .ok (decide (x = y)) w := by
  rw [run_equalIn_agg _ _ 32 _ _ (by kernel_rfl) (by kernel_rfl), show (Program.fieldsOf Tryz.prog 32).toList = [((fsOf (Tryz.prog.underlying 32)).getD 0 default), ((fsOf (Tryz.prog.underlying 32)).getD 1 default), ((fsOf (Tryz.prog.underlying 32)).getD 2 default), ((fsOf (Tryz.prog.underlying 32)).getD 3 default), ((fsOf (Tryz.prog.underlying 32)).getD 4 default), ((fsOf (Tryz.prog.underlying 32)).getD 5 default), ((fsOf (Tryz.prog.underlying 32)).getD 6 default), ((fsOf (Tryz.prog.underlying 32)).getD 7 default)] from by kernel_rfl]
  refine Eq.trans (eqF_cell (by kernel_rfl) (T := 9) (by kernel_rfl) (off := 0) (by kernel_rfl) rfl rfl (equalIn_str (m) _ _ w) (eqF_cell (by kernel_rfl) (T := 22) (by kernel_rfl) (off := 1) (by kernel_rfl) rfl rfl (equalIn_int (m) _ _ w) (eqF_cell (by kernel_rfl) (T := 22) (by kernel_rfl) (off := 2) (by kernel_rfl) rfl rfl (equalIn_int (m) _ _ w) (eqF_cell (by kernel_rfl) (T := 22) (by kernel_rfl) (off := 3) (by kernel_rfl) rfl rfl (equalIn_int (m) _ _ w) (eqF_cell (by kernel_rfl) (T := 22) (by kernel_rfl) (off := 4) (by kernel_rfl) rfl rfl (equalIn_int (m) _ _ w) (eqF_cell (by kernel_rfl) (T := 9) (by kernel_rfl) (off := 5) (by kernel_rfl) rfl rfl (equalIn_str (m) _ _ w) (eqF_cell (by kernel_rfl) (T := 22) (by kernel_rfl) (off := 6) (by kernel_rfl) rfl rfl (equalIn_int (m) _ _ w) (eqF_cell (by kernel_rfl) (T := 9) (by kernel_rfl) (off := 7) (by kernel_rfl) rfl rfl (equalIn_str (m) _ _ w) eqF_nil)))))))) ?_
  congr 1
  rw [Bool.eq_iff_iff]
  cases x; cases y
  simp
theorem eq_rwn (m : Nat) (x y : Wn) (w : World) : (Op.equalIn (m + 3) 34 (.agg (Wn.c x).toArray) (.agg (Wn.c y).toArray)).run Tryz.prog w = .ok (decide (x = y)) w := by
  rw [run_equalIn_agg _ _ 34 _ _ (by kernel_rfl) (by kernel_rfl), show (Program.fieldsOf Tryz.prog 34).toList = [((fsOf (Tryz.prog.underlying 34)).getD 0 default), ((fsOf (Tryz.prog.underlying 34)).getD 1 default), ((fsOf (Tryz.prog.underlying 34)).getD 2 default)] from by kernel_rfl]
  refine Eq.trans (eqF_agg (by kernel_rfl) (T := 32) (by kernel_rfl) (off := 0) (by kernel_rfl) (by repeat constructor) (by repeat constructor) (eq_rtk m x.t y.t w) (eqF_cell (by kernel_rfl) (T := 9) (by kernel_rfl) (off := 8) (by kernel_rfl) rfl rfl (equalIn_str (m + 1) _ _ w) (eqF_cell (by kernel_rfl) (T := 22) (by kernel_rfl) (off := 9) (by kernel_rfl) rfl rfl (equalIn_int (m + 1) _ _ w) eqF_nil))) ?_
  congr 1
  rw [Bool.eq_iff_iff]
  cases x; cases y
  simp
theorem rmay_any (t : Tk) (w : World) :
  Calls Tryz.prog 39 #[.agg (Tk.c t).toArray] w fun e w' => e = .returned (.bool (tkMay t)) ∧ Ch [] w w' := by
 refine calls_of (n := 19) (E := [(0, .agg (Tk.c t).toArray)]) (W := Hp w [] []) Tryz.func39 rfl rfl (Nat.le_of_ble_eq_true rfl) rfl (Hp.nil _ _) ?_
 refine jsr ?_
 refine jl_m rfl (by decide) rfl (m_box rfl rfl) (fun b1 => ?_)
 refine jz ?_
 refine jnt ?_
 refine jsr ?_
 refine jz ?_
 refine jz ?_
 refine jy (y_len_str rfl) ?_
 refine jy (y_eql rfl rfl) ?_
 refine jl_prop (fun h6 => ?_) (fun h6 => ?_)
 ·first
  | (exfalso; omega)
  | (
   refine jz ?_
   refine jz ?_
   refine jz ?_
   refine jy (y_len_str rfl) ?_
   refine jy (y_eql rfl rfl) ?_
   refine jl_prop (fun h11 => ?_) (fun h11 => ?_)
   ·first
    | (exfalso; omega)
    | (
     refine jy (y_pick_true rfl rfl) ?_
     refine jz ?_
     refine jz ?_
     refine jz ?_
     refine jy (y_len_str rfl) ?_
     refine jy (y_leq rfl rfl) ?_
     refine jy (y_pick_true rfl rfl) ?_
     refine jz ?_
     refine jnt ?_
     refine jc_ret ?_
     refine jq_ret1 rfl rfl ?_
     exact fun _ hw => ⟨congrArg (fun b => Ending.returned (Value.bool b)) (by unfold tkMay; rw [Bool.eq_iff_iff]; simp only [Bool.and_eq_true, decide_eq_true_eq, Bool.false_eq_true, false_iff, true_iff]; omega), hw.ch⟩
     )
   ·first
    | (exfalso; omega)
    | (
     refine jy (y_pick_true rfl rfl) ?_
     refine jz ?_
     refine jsk ?_
     refine jsk ?_
     refine jsk ?_
     refine jsk ?_
     refine jy (y_pick_false rfl rfl) ?_
     refine jz ?_
     refine jnt ?_
     refine jc_ret ?_
     refine jq_ret1 rfl rfl ?_
     exact fun _ hw => ⟨congrArg (fun b => Ending.returned (Value.bool b)) (by unfold tkMay; rw [Bool.eq_iff_iff]; simp only [Bool.and_eq_true, decide_eq_true_eq, Bool.false_eq_true, false_iff, true_iff]; omega), hw.ch⟩
     )
   )
 ·first
  | (exfalso; omega)
  | (
   refine jz ?_
   refine jsk ?_
   refine jsk ?_
   refine jsk ?_
   refine jsk ?_
   refine jy (y_pick_false rfl rfl) ?_
   refine jz ?_
   refine jsk ?_
   refine jsk ?_
   refine jsk ?_
   refine jsk ?_
   refine jy (y_pick_false rfl rfl) ?_
   refine jz ?_
   refine jnt ?_
   refine jc_ret ?_
   refine jq_ret1 rfl rfl ?_
   exact fun _ hw => ⟨congrArg (fun b => Ending.returned (Value.bool b)) (by unfold tkMay; rw [Bool.eq_iff_iff]; simp only [Bool.and_eq_true, decide_eq_true_eq, Bool.false_eq_true, false_iff, true_iff]; omega), hw.ch⟩
   )

theorem rright_any (p : Pf) (ad : Option Addr) (c : Nat) (w : World) (hE : ElAt w ad 10 (p.wins.map Wn.c)) (hl : p.wins.length ≤ 1000000000) :
  Calls Tryz.prog 25 #[.agg (Pf.c p ad c).toArray] w fun e w' => e = .returned (.bool (pfRight p)) ∧ Ch [] w w' := by
 refine calls_of (n := 51) (E := [(0, .agg (Pf.c p ad c).toArray)]) (W := Hp w [] []) Tryz.func25 rfl rfl (Nat.le_of_ble_eq_true rfl) rfl (Hp.nil _ _) ?_
 refine jsr ?_
 refine jl_m rfl (by decide) rfl (m_box rfl rfl) (fun b1 => ?_)
 refine jz ?_
 refine jnt ?_
 refine jc_seq ?_
 refine jsr ?_
 refine jz ?_
 refine jnt ?_
 refine jc_block ?_
 refine jc_loop (fun (i : Nat) => [(1, .pointer (some ⟨b1, 0, none⟩)), (3, .int .i64 (i : Nat))]) (fun (i : Nat) => fun w' => (i ≤ p.wins.length ∧ ∀ z ∈ p.wins.take i, wnMay z = true) ∧ Hp w [] [.cells b1 (Pf.c p ad c)] w') (fun (i : Nat) => p.wins.length - i) 0 ?_ ?_ ?_
 ·exact ⟨rfl, rfl, trivial⟩
 ·exact fun _ h => ⟨⟨by omega, by simp⟩, h⟩
 ·intro i
  refine jc_and (fun hi => ?_)
  refine jc_seq ?_
  refine jsr ?_
  refine jz ?_
  refine jz ?_
  refine jz ?_
  refine jy (y_len_slice rfl) ?_
  refine jy (y_lss rfl rfl) ?_
  refine jl_prop (fun h8 => ?_) (fun h8 => ?_)
  ·first
   | (exfalso; omega)
   | (
    have hlt : i < p.wins.length := by omega
    obtain ⟨bb, oo, ea, hold⟩ := hE.get hlt
    subst ea
    generalize hxe : p.wins[i]'hlt = x at *
    refine jnt ?_
    refine jc_true rfl ?_
    refine jc_skip ?_
    refine jq_then ?_
    refine jc_seq ?_
    refine jc_block ?_
    refine jsr ?_
    refine jz ?_
    refine jz ?_
    refine jz ?_
    refine jy (y_indexAddr_slice (off := oo + i * 10) rfl rfl (by omega) (by omega) (by omega)) ?_
    refine jz ?_
    refine jy (y_loadAgg_old rfl rfl (hold.take 8) (by simp)) ?_
    refine jpc (goes_func rfl) (fun w1 hw1 => rmay_any x.t w1) ?_
    refine jl_bool (fun h17 => ?_) (fun h17 => ?_)
    ·skip
     refine jz ?_
     refine jz ?_
     refine jz ?_
     refine jz ?_
     refine jz ?_
     refine jy (y_indexAddr_slice (off := oo + i * 10) rfl rfl (by omega) (by omega) (by omega)) ?_
     refine jz ?_
     refine jy (y_load_old rfl (hold 8 _ rfl) (by simp)) ?_
     refine jy (y_len_str rfl) ?_
     refine jy (y_gtr rfl rfl) ?_
     refine jl_prop (fun h27 => ?_) (fun h27 => ?_)
     ·first
      | (exfalso; omega)
      | (
       refine jy (y_pick_false rfl rfl) ?_
       refine jnt ?_
       refine jc_true rfl ?_
       refine jsr ?_
       refine jz ?_
       refine jnt ?_
       refine jc_ret ?_
       refine jq_block_ret ?_
       refine jq_then_ret ?_
       refine jq_then_ret ?_
       refine jq_block_ret ?_
       refine jq_then_ret ?_
       refine jq_ret1 rfl rfl ?_
       exact fun _ hw => ⟨congrArg (fun b => Ending.returned (Value.bool b)) (right_no hlt hxe (by first | exact wn_no1 (by assumption) | exact wn_no2 (by omega))), hw.ch⟩
       )
     ·first
      | (exfalso; omega)
      | (
       refine jy (y_pick_false rfl rfl) ?_
       refine jnt ?_
       refine jc_false rfl ?_
       refine jc_skip ?_
       refine jq_block ?_
       refine jq_then ?_
       refine jc_region ?_
       refine jz ?_
       refine jy (y_add_fits rfl rfl (by simp only [fits]; omega)) ?_
       refine jz ?_
       refine jl_nil ?_
       refine jq_round (i := i) (i + 1) ?_ ?_ ?_
       ·omega
       ·exact ⟨rfl, lk_int rfl (by omega), trivial⟩
       ·exact fun _ h => ⟨⟨by omega, all_take hlt hi.2 (by rw [hxe]; simp only [wnMay, Bool.and_eq_true, decide_eq_true_eq]; exact ⟨by assumption, by omega⟩)⟩, h⟩
       )
    ·skip
     refine jz ?_
     refine jz ?_
     refine jsk ?_
     refine jsk ?_
     refine jsk ?_
     refine jsk ?_
     refine jsk ?_
     refine jsk ?_
     refine jsk ?_
     refine jsk ?_
     refine jy (y_pick_true rfl rfl) ?_
     refine jnt ?_
     refine jc_true rfl ?_
     refine jsr ?_
     refine jz ?_
     refine jnt ?_
     refine jc_ret ?_
     refine jq_block_ret ?_
     refine jq_then_ret ?_
     refine jq_then_ret ?_
     refine jq_block_ret ?_
     refine jq_then_ret ?_
     refine jq_ret1 rfl rfl ?_
     exact fun _ hw => ⟨congrArg (fun b => Ending.returned (Value.bool b)) (right_no hlt hxe (by first | exact wn_no1 (by assumption) | exact wn_no2 (by omega))), hw.ch⟩
    )
  ·first
   | (exfalso; omega)
   | (
    refine jnt ?_
    refine jc_false rfl ?_
    refine jc_exit ?_
    refine jq_then_exit ?_
    refine jq_then_exit ?_
    refine jq_hit ?_
    refine jq_then ?_
    refine jsr ?_
    refine jz ?_
    refine jz ?_
    refine jy (y_len_str rfl) ?_
    refine jy (y_leq rfl rfl) ?_
    refine jl_prop (fun h32 => ?_) (fun h32 => ?_)
    ·first
     | (exfalso; omega)
     | (
      refine jz ?_
      refine jz ?_
      refine jz ?_
      refine jy (y_len_str rfl) ?_
      refine jy (y_eql rfl rfl) ?_
      refine jl_prop (fun h37 => ?_) (fun h37 => ?_)
      ·first
       | (exfalso; omega)
       | (
        refine jz ?_
        refine jsk ?_
        refine jsk ?_
        refine jsk ?_
        refine jsk ?_
        refine jy (y_pick_true rfl rfl) ?_
        refine jy (y_pick_true rfl rfl) ?_
        refine jz ?_
        refine jz ?_
        refine jz ?_
        refine jy (y_len_slice rfl) ?_
        refine jy (y_leq rfl rfl) ?_
        refine jy (y_pick_true rfl rfl) ?_
        refine jz ?_
        refine jnt ?_
        refine jc_ret ?_
        refine jq_ret1 rfl rfl ?_
        exact fun _ hw => ⟨congrArg (fun b => Ending.returned (Value.bool b)) (by rw [Bool.eq_iff_iff, pfRight_iff]; have hall : ∀ z ∈ p.wins, wnMay z = true := (by have h1 := hi.2; rwa [List.take_of_length_le (by omega)] at h1); first | exact ⟨fun h => (by have h3 := of_decide_eq_true h; exact ⟨hall, by omega, by omega, by omega⟩), fun h => decide_eq_true (by omega)⟩ | exact ⟨fun h => absurd h (by decide), fun h => (by obtain ⟨_, h2, h3, h4⟩ := h; omega)⟩), hw.ch⟩
        )
      ·first
       | (exfalso; omega)
       | (
        refine jz ?_
        refine jz ?_
        refine jz ?_
        refine jy (y_len_str rfl) ?_
        refine jy (y_eql rfl rfl) ?_
        refine jl_prop (fun h42 => ?_) (fun h42 => ?_)
        ·first
         | (exfalso; omega)
         | (
          refine jy (y_pick_false rfl rfl) ?_
          refine jy (y_pick_true rfl rfl) ?_
          refine jz ?_
          refine jz ?_
          refine jz ?_
          refine jy (y_len_slice rfl) ?_
          refine jy (y_leq rfl rfl) ?_
          refine jy (y_pick_true rfl rfl) ?_
          refine jz ?_
          refine jnt ?_
          refine jc_ret ?_
          refine jq_ret1 rfl rfl ?_
          exact fun _ hw => ⟨congrArg (fun b => Ending.returned (Value.bool b)) (by rw [Bool.eq_iff_iff, pfRight_iff]; have hall : ∀ z ∈ p.wins, wnMay z = true := (by have h1 := hi.2; rwa [List.take_of_length_le (by omega)] at h1); first | exact ⟨fun h => (by have h3 := of_decide_eq_true h; exact ⟨hall, by omega, by omega, by omega⟩), fun h => decide_eq_true (by omega)⟩ | exact ⟨fun h => absurd h (by decide), fun h => (by obtain ⟨_, h2, h3, h4⟩ := h; omega)⟩), hw.ch⟩
          )
        ·first
         | (exfalso; omega)
         | (
          refine jy (y_pick_false rfl rfl) ?_
          refine jy (y_pick_true rfl rfl) ?_
          refine jz ?_
          refine jsk ?_
          refine jsk ?_
          refine jsk ?_
          refine jsk ?_
          refine jy (y_pick_false rfl rfl) ?_
          refine jz ?_
          refine jnt ?_
          refine jc_ret ?_
          refine jq_ret1 rfl rfl ?_
          exact fun _ hw => ⟨congrArg (fun b => Ending.returned (Value.bool b)) (by rw [Bool.eq_iff_iff, pfRight_iff]; have hall : ∀ z ∈ p.wins, wnMay z = true := (by have h1 := hi.2; rwa [List.take_of_length_le (by omega)] at h1); first | exact ⟨fun h => (by have h3 := of_decide_eq_true h; exact ⟨hall, by omega, by omega, by omega⟩), fun h => decide_eq_true (by omega)⟩ | exact ⟨fun h => absurd h (by decide), fun h => (by obtain ⟨_, h2, h3, h4⟩ := h; omega)⟩), hw.ch⟩
          )
        )
      )
    ·first
     | (exfalso; omega)
     | (
      refine jz ?_
      refine jsk ?_
      refine jsk ?_
      refine jsk ?_
      refine jsk ?_
      refine jsk ?_
      refine jsk ?_
      refine jsk ?_
      refine jsk ?_
      refine jsk ?_
      refine jsk ?_
      refine jy (y_pick_false rfl rfl) ?_
      refine jz ?_
      refine jsk ?_
      refine jsk ?_
      refine jsk ?_
      refine jsk ?_
      refine jy (y_pick_false rfl rfl) ?_
      refine jz ?_
      refine jnt ?_
      refine jc_ret ?_
      refine jq_ret1 rfl rfl ?_
      exact fun _ hw => ⟨congrArg (fun b => Ending.returned (Value.bool b)) (by rw [Bool.eq_iff_iff, pfRight_iff]; have hall : ∀ z ∈ p.wins, wnMay z = true := (by have h1 := hi.2; rwa [List.take_of_length_le (by omega)] at h1); first | exact ⟨fun h => (by have h3 := of_decide_eq_true h; exact ⟨hall, by omega, by omega, by omega⟩), fun h => decide_eq_true (by omega)⟩ | exact ⟨fun h => absurd h (by decide), fun h => (by obtain ⟨_, h2, h3, h4⟩ := h; omega)⟩), hw.ch⟩
      )
    )

theorem rdec_any (S : ByteArray) (w : World) (hS : S.size ≤ 1000000000) :
  Calls Tryz.prog 23 #[.string S] w fun e w' => ∃ pr : Option Addr × Nat, e = .returned (.tuple #[.agg (Pf.c (pfDec S) pr.1 pr.2).toArray, .int .i64 (pfErr S r00)]) ∧ Fresh w w' (.row pr.1 (pfDec S).wins.length pr.2 34 10 ((pfDec S).wins.flatMap Wn.c)) := by
 refine calls_of (n := 89) (E := [(0, .string S)]) (W := Hp w [] []) Tryz.func23 rfl rfl (Nat.le_of_ble_eq_true rfl) rfl (Hp.nil _ _) ?_
 refine jsr ?_
 refine jl_m rfl (by decide) rfl (m_alloc) (fun b2 => ?_)
 refine jz ?_
 refine jnt ?_
 refine jsr ?_
 refine jz ?_
 refine jy (y_build (Built.cell rfl rfl rfl (by repeat constructor) Built.nil)) ?_
 refine jl_m rfl (by decide) rfl (m_box rfl rfl) (fun br => ?_)
 refine jz ?_
 refine jnt ?_
 refine jc_seq ?_
 refine jc_world (fun _ h => h.cast (H' := [.cells br [.string S, .int .i64 ((r00).1 : Nat), .int .i64 (r00).2], .cells b2 [.int .u64 0, .string ⟨#[]⟩, .string ⟨#[]⟩, .slice none 0 0]]) rfl) ?_
 refine jc_region ?_
 refine jz ?_
 refine juc (goes_func rfl) (fun w1 hw1 => qnum_any br S (r00) w1 hS (r00_ok S) hw1) ?_
 refine jy (y_build (Built.cell rfl rfl rfl (by repeat constructor) Built.nil)) ?_
 refine jl_m rfl (by decide) rfl (m_alloc) (fun b5 => ?_)
 refine jst ?_
 refine jnt ?_
 refine jsr ?_
 refine jz ?_
 refine juc (goes_func rfl) (fun w1 hw1 => qblob_any br S (nuS S (r00)) 400 w1 hS (nuS_ok (r00_ok S)) hw1) ?_
 refine jz ?_
 refine jst ?_
 refine jnt ?_
 refine jsr ?_
 refine jz ?_
 refine juc (goes_func rfl) (fun w1 hw1 => qblob_any br S (blS S (nuS S (r00)) 400) 16 w1 hS (blS_ok (nuS_ok (r00_ok S))) hw1) ?_
 refine jz ?_
 refine jst ?_
 refine jnt ?_
 refine jsr ?_
 refine jz ?_
 refine juc (goes_func rfl) (fun w1 hw1 => qbyte_any br S (blS S (blS S (nuS S (r00)) 400) 16) w1 hS (blS_ok (blS_ok (nuS_ok (r00_ok S)))) hw1) ?_
 refine jz ?_
 refine jnt ?_
 refine jc_seq ?_
 refine jsr ?_
 refine jz ?_
 refine jnt ?_
 refine jc_block ?_
 refine jc_loop3 (fun (i : Nat) (ad : Option Addr) (c : Nat) => [(2, .pointer (some ⟨b2, 0, none⟩)), (4, .pointer (some ⟨br, 0, none⟩)), (5, .pointer (some ⟨b5, 0, none⟩)), (6, .int .i64 (byV S (pfC S r00))), (7, .int .i64 (i : Nat))]) (fun (i : Nat) (ad : Option Addr) (c : Nat) => fun w' => i ≤ pfN S r00 ∧ Hp w [] [.row ad (i) c 34 10 (((rdWins S (pfD S r00) i).1).flatMap Wn.c), .cells b5 [.int .u64 (nuV S r00), .string (blV S (pfA S r00) 400), .string (blV S (pfB S r00) 16), .slice ad (i) c], .cells br [.string S, .int .i64 (((rdWins S (pfD S r00) i).2).1 : Nat), .int .i64 ((rdWins S (pfD S r00) i).2).2], .cells b2 [.int .u64 0, .string ⟨#[]⟩, .string ⟨#[]⟩, .slice none 0 0]] w') (fun (i : Nat) (ad : Option Addr) (c : Nat) => pfN S r00 - i) 0 none 0 ?_ ?_ ?_
 ·exact ⟨rfl, rfl, rfl, rfl, rfl, trivial⟩
 ·exact fun _ h => ⟨by omega, (h.nilrow 34 10)⟩
 ·intro i ad c
  refine jc_and (fun hi => ?_)
  have hn4 := pfN_le S r00
  have hnb := byV_range S (pfC S r00)
  have hnv : (pfN S r00 : Int) = min (byV S (pfC S r00)) 4 := by unfold pfN; omega
  refine jc_seq ?_
  refine jsr ?_
  refine jz ?_
  refine jz ?_
  refine jy (y_lss rfl rfl) ?_
  refine jl_prop (fun h26 => ?_) (fun h26 => ?_)
  ·first
   | (exfalso; omega)
   | (
    refine jz ?_
    refine jz ?_
    refine jy (y_lss rfl rfl) ?_
    refine jl_prop (fun h29 => ?_) (fun h29 => ?_)
    ·first
     | (exfalso; omega)
     | (
      refine jy (y_pick_true rfl rfl) ?_
      refine jnt ?_
      refine jc_true rfl ?_
      refine jc_skip ?_
      refine jq_then ?_
      refine jc_seq ?_
      refine jc_block ?_
      refine jsr ?_
      refine jy (y_build Built.nil) ?_
      refine jl_m rfl (by decide) rfl (m_alloc) (fun b8 => ?_)
      refine jst ?_
      refine jnt ?_
      refine jsr ?_
      refine jz ?_
      refine juc (goes_func rfl) (fun w1 hw1 => qhash_any br S ((rdWins S (pfD S r00) i).2) w1 hS (rdWins_ok (pfD_ok S) i) hw1) ?_
      refine jz ?_
      refine jz ?_
      refine jst ?_
      refine jnt ?_
      refine jsr ?_
      refine jz ?_
      refine juc (goes_func rfl) (fun w1 hw1 => qnum_any br S (haS S ((rdWins S (pfD S r00) i).2)) w1 hS (haS_ok (rdWins_ok (pfD_ok S) i)) hw1) ?_
      refine jz ?_
      refine jz ?_
      refine jst ?_
      refine jnt ?_
      refine jsr ?_
      refine jz ?_
      refine juc (goes_func rfl) (fun w1 hw1 => qnum_any br S (nuS S (haS S ((rdWins S (pfD S r00) i).2))) w1 hS (nuS_ok (haS_ok (rdWins_ok (pfD_ok S) i))) hw1) ?_
      refine jz ?_
      refine jz ?_
      refine jst ?_
      refine jnt ?_
      refine jsr ?_
      refine jz ?_
      refine juc (goes_func rfl) (fun w1 hw1 => qnum_any br S (nuS S (nuS S (haS S ((rdWins S (pfD S r00) i).2)))) w1 hS (nuS_ok (nuS_ok (haS_ok (rdWins_ok (pfD_ok S) i)))) hw1) ?_
      refine jz ?_
      refine jz ?_
      refine jst ?_
      refine jnt ?_
      refine jsr ?_
      refine jz ?_
      refine juc (goes_func rfl) (fun w1 hw1 => qnum_any br S (nuS S (nuS S (nuS S (haS S ((rdWins S (pfD S r00) i).2))))) w1 hS (nuS_ok (nuS_ok (nuS_ok (haS_ok (rdWins_ok (pfD_ok S) i))))) hw1) ?_
      refine jz ?_
      refine jz ?_
      refine jst ?_
      refine jnt ?_
      refine jsr ?_
      refine jz ?_
      refine juc (goes_func rfl) (fun w1 hw1 => qhash_any br S (nuS S (nuS S (nuS S (nuS S (haS S ((rdWins S (pfD S r00) i).2)))))) w1 hS (nuS_ok (nuS_ok (nuS_ok (nuS_ok (haS_ok (rdWins_ok (pfD_ok S) i)))))) hw1) ?_
      refine jz ?_
      refine jz ?_
      refine jst ?_
      refine jnt ?_
      refine jsr ?_
      refine jz ?_
      refine juc (goes_func rfl) (fun w1 hw1 => qnum_any br S (haS S (nuS S (nuS S (nuS S (nuS S (haS S ((rdWins S (pfD S r00) i).2))))))) w1 hS (haS_ok (nuS_ok (nuS_ok (nuS_ok (nuS_ok (haS_ok (rdWins_ok (pfD_ok S) i))))))) hw1) ?_
      refine jz ?_
      refine jz ?_
      refine jst ?_
      refine jnt ?_
      refine jsr ?_
      refine jz ?_
      refine juc (goes_func rfl) (fun w1 hw1 => qblob_any br S (nuS S (haS S (nuS S (nuS S (nuS S (nuS S (haS S ((rdWins S (pfD S r00) i).2)))))))) 400 w1 hS (nuS_ok (haS_ok (nuS_ok (nuS_ok (nuS_ok (nuS_ok (haS_ok (rdWins_ok (pfD_ok S) i)))))))) hw1) ?_
      refine jz ?_
      refine jz ?_
      refine jst ?_
      refine jnt ?_
      refine jsr ?_
      refine jz ?_
      refine juc (goes_func rfl) (fun w1 hw1 => qblob_any br S (blS S (nuS S (haS S (nuS S (nuS S (nuS S (nuS S (haS S ((rdWins S (pfD S r00) i).2)))))))) 400) 32 w1 hS (blS_ok (nuS_ok (haS_ok (nuS_ok (nuS_ok (nuS_ok (nuS_ok (haS_ok (rdWins_ok (pfD_ok S) i))))))))) hw1) ?_
      refine jz ?_
      refine jst ?_
      refine jnt ?_
      refine jsr ?_
      refine jz ?_
      refine juc (goes_func rfl) (fun w1 hw1 => qnum_any br S (blS S (blS S (nuS S (haS S (nuS S (nuS S (nuS S (nuS S (haS S ((rdWins S (pfD S r00) i).2)))))))) 400) 32) w1 hS (blS_ok (blS_ok (nuS_ok (haS_ok (nuS_ok (nuS_ok (nuS_ok (nuS_ok (haS_ok (rdWins_ok (pfD_ok S) i)))))))))) hw1) ?_
      refine jz ?_
      refine jst ?_
      refine jnt ?_
      refine jc_region ?_
      refine jz ?_
      refine jz ?_
      refine jz ?_
      refine jl_m rfl (by decide) rfl (m_buildSlice (size := 10) (by decide) (Built.agg rfl rfl rfl (by repeat constructor) Built.nil)) (fun b75 => ?_)
      refine jl_m2 rfl (by decide) rfl (m_append rfl rfl (by first | exact del0 | exact del1 | exact del2 | exact del3 | exact del4) (by first | exact del0 | exact del1 | exact del2 | exact del3 | exact del4) rfl (by omega) (by omega)) (fun a76 c76 => ?_)
      refine jz ?_
      refine jst ?_
      refine jl_nil ?_
      refine jq_block ?_
      refine jq_then ?_
      refine jc_region ?_
      refine jz ?_
      refine jy (y_add_fits rfl rfl (by simp only [fits]; omega)) ?_
      refine jz ?_
      refine jl_nil ?_
      refine jq_round3 (i := i) (j := ad) (l := c) (i + 1) a76 c76 ?_ ?_ ?_
      ·omega
      ·exact ⟨rfl, rfl, rfl, rfl, lk_int rfl (by omega), trivial⟩
      ·exact fun _ h => ⟨by omega, (h.part (.cons del0 (.cons del1 (.cons del1 (.cons del1 .nil))))).cast (by rw [← rdWins_flat]; rfl)⟩
      )
    ·first
     | (exfalso; omega)
     | (
      refine jy (y_pick_true rfl rfl) ?_
      refine jnt ?_
      refine jc_false rfl ?_
      refine jc_exit ?_
      refine jq_then_exit ?_
      refine jq_then_exit ?_
      refine jq_hit ?_
      refine jq_then ?_
      refine jc_seq ?_
      have hie : i = pfN S r00 := by have hb := byV_range S (pfC S r00); unfold pfN at hi ⊢; unfold pfC pfB pfA at *; omega
      obtain ⟨p, hp⟩ : ∃ p, p = rdPf S r00 := ⟨_, rfl⟩
      obtain ⟨x, hx⟩ : ∃ x, x = (rdWins S (pfD S r00) (pfN S r00)).2 := ⟨_, rfl⟩
      have hok : okR S x := hx ▸ rdWins_ok (pfD_ok S) _
      refine jc_world (fun _ h => h.cast (H' := [.row ad p.wins.length c 34 10 (p.wins.flatMap Wn.c), .cells b5 (Pf.c p ad c), .cells br [.string S, .int .i64 ((x).1 : Nat), .int .i64 (x).2], .cells b2 [.int .u64 0, .string ⟨#[]⟩, .string ⟨#[]⟩, .slice none 0 0]]) (by subst hie hp hx; have hl : (rdPf S r00).wins.length = pfN S r00 := rdWins_length _ _ _; simp only [Pf.c, hl]; rfl)) ?_
      refine jc_region ?_
      refine jz ?_
      refine jpc (goes_func rfl) (fun w1 hw1 => qend_any br S x w1 hS hok (CellAt.of_cells (hw1.get (A := .cells br [.string S, .int .i64 ((x).1 : Nat), .int .i64 (x).2]) mem2) rfl) (CellAt.of_cells (hw1.get (A := .cells br [.string S, .int .i64 ((x).1 : Nat), .int .i64 (x).2]) mem2) rfl) (CellAt.of_cells (hw1.get (A := .cells br [.string S, .int .i64 ((x).1 : Nat), .int .i64 (x).2]) mem2) rfl)) ?_
      refine jz ?_
      refine jnt ?_
      refine jc_seq ?_
      refine jsr ?_
      refine jz ?_
      refine jy (y_neq rfl rfl) ?_
      refine jl_prop (fun h81 => ?_) (fun h81 => ?_)
      ·first
       | (exfalso; omega)
       | (
        refine jnt ?_
        refine jc_true rfl ?_
        refine jsr ?_
        refine jy (y_build Built.nil) ?_
        refine jz ?_
        refine jst ?_
        refine jz ?_
        refine jnt ?_
        refine jc_ret ?_
        refine jq_then_ret ?_
        refine jq_res (.inl rfl) rfl (.cell rfl (by first | exact ld_agg (by first | exact mem0 | exact mem1 | exact mem2 | exact mem3 | exact mem4 | exact mem5) (by repeat constructor) | exact ld_agg (by first | exact mem0 | exact mem1 | exact mem2 | exact mem3 | exact mem4 | exact mem5) (by assumption)) (.tmp rfl .nil)) ?_
        exact fun _ hw => ⟨(none, 0), by rw [(dec_bad1 hx (by omega)).1, (dec_bad1 hx (by omega)).2]; rfl, by rw [(dec_bad1 hx (by omega)).2]; exact (Hp.nilrow 34 10 (Hp.of_ch hw.ch)).fresh⟩
        )
      ·first
       | (exfalso; omega)
       | (
        refine jnt ?_
        refine jc_false rfl ?_
        refine jc_skip ?_
        refine jq_then ?_
        refine jc_seq ?_
        refine jsr ?_
        refine jz ?_
        refine jpc (goes_func rfl) (fun w1 hw1 => rright_any p ad c w1 (ElAt.of_row wn_len rfl (hw1.get (A := .row ad p.wins.length c 34 10 (p.wins.flatMap Wn.c)) mem0)) (by have := rdPf_len hp; omega)) ?_
        refine jl_bool (fun h85 => ?_) (fun h85 => ?_)
        ·skip
         refine jz ?_
         refine jnt ?_
         refine jc_false rfl ?_
         refine jc_skip ?_
         refine jq_then ?_
         refine jsr ?_
         refine jz ?_
         refine jst ?_
         refine jz ?_
         refine jnt ?_
         refine jc_ret ?_
         refine jq_res (.inl rfl) rfl (.cell rfl (by first | exact ld_agg (by first | exact mem0 | exact mem1 | exact mem2 | exact mem3 | exact mem4 | exact mem5) (by repeat constructor) | exact ld_agg (by first | exact mem0 | exact mem1 | exact mem2 | exact mem3 | exact mem4 | exact mem5) (by assumption)) (.tmp rfl .nil)) ?_
         exact fun _ hw => ⟨(ad, c), by rw [(dec_ok hp hx (by omega) (by assumption)).1, (dec_ok hp hx (by omega) (by assumption)).2]; rfl, by rw [(dec_ok hp hx (by omega) (by assumption)).2]; exact (hw.part (.cons del0 .nil)).fresh⟩
        ·skip
         refine jz ?_
         refine jnt ?_
         refine jc_true rfl ?_
         refine jsr ?_
         refine jy (y_build Built.nil) ?_
         refine jst ?_
         refine jz ?_
         refine jnt ?_
         refine jc_ret ?_
         refine jq_then_ret ?_
         refine jq_res (.inl rfl) rfl (.cell rfl (by first | exact ld_agg (by first | exact mem0 | exact mem1 | exact mem2 | exact mem3 | exact mem4 | exact mem5) (by repeat constructor) | exact ld_agg (by first | exact mem0 | exact mem1 | exact mem2 | exact mem3 | exact mem4 | exact mem5) (by assumption)) (.tmp rfl .nil)) ?_
         exact fun _ hw => ⟨(none, 0), by rw [(dec_bad2 hp hx (by omega) (by assumption)).1, (dec_bad2 hp hx (by omega) (by assumption)).2]; rfl, by rw [(dec_bad2 hp hx (by omega) (by assumption)).2]; exact (Hp.nilrow 34 10 (Hp.of_ch hw.ch)).fresh⟩
        )
      )
    )
  ·first
   | (exfalso; omega)
   | (
    refine jz ?_
    refine jsk ?_
    refine jsk ?_
    refine jy (y_pick_false rfl rfl) ?_
    refine jnt ?_
    refine jc_false rfl ?_
    refine jc_exit ?_
    refine jq_then_exit ?_
    refine jq_then_exit ?_
    refine jq_hit ?_
    refine jq_then ?_
    refine jc_seq ?_
    have hie : i = pfN S r00 := by have hb := byV_range S (pfC S r00); unfold pfN at hi ⊢; unfold pfC pfB pfA at *; omega
    obtain ⟨p, hp⟩ : ∃ p, p = rdPf S r00 := ⟨_, rfl⟩
    obtain ⟨x, hx⟩ : ∃ x, x = (rdWins S (pfD S r00) (pfN S r00)).2 := ⟨_, rfl⟩
    have hok : okR S x := hx ▸ rdWins_ok (pfD_ok S) _
    refine jc_world (fun _ h => h.cast (H' := [.row ad p.wins.length c 34 10 (p.wins.flatMap Wn.c), .cells b5 (Pf.c p ad c), .cells br [.string S, .int .i64 ((x).1 : Nat), .int .i64 (x).2], .cells b2 [.int .u64 0, .string ⟨#[]⟩, .string ⟨#[]⟩, .slice none 0 0]]) (by subst hie hp hx; have hl : (rdPf S r00).wins.length = pfN S r00 := rdWins_length _ _ _; simp only [Pf.c, hl]; rfl)) ?_
    refine jc_region ?_
    refine jz ?_
    refine jpc (goes_func rfl) (fun w1 hw1 => qend_any br S x w1 hS hok (CellAt.of_cells (hw1.get (A := .cells br [.string S, .int .i64 ((x).1 : Nat), .int .i64 (x).2]) mem2) rfl) (CellAt.of_cells (hw1.get (A := .cells br [.string S, .int .i64 ((x).1 : Nat), .int .i64 (x).2]) mem2) rfl) (CellAt.of_cells (hw1.get (A := .cells br [.string S, .int .i64 ((x).1 : Nat), .int .i64 (x).2]) mem2) rfl)) ?_
    refine jz ?_
    refine jnt ?_
    refine jc_seq ?_
    refine jsr ?_
    refine jz ?_
    refine jy (y_neq rfl rfl) ?_
    refine jl_prop (fun h81 => ?_) (fun h81 => ?_)
    ·first
     | (exfalso; omega)
     | (
      refine jnt ?_
      refine jc_true rfl ?_
      refine jsr ?_
      refine jy (y_build Built.nil) ?_
      refine jz ?_
      refine jst ?_
      refine jz ?_
      refine jnt ?_
      refine jc_ret ?_
      refine jq_then_ret ?_
      refine jq_res (.inl rfl) rfl (.cell rfl (by first | exact ld_agg (by first | exact mem0 | exact mem1 | exact mem2 | exact mem3 | exact mem4 | exact mem5) (by repeat constructor) | exact ld_agg (by first | exact mem0 | exact mem1 | exact mem2 | exact mem3 | exact mem4 | exact mem5) (by assumption)) (.tmp rfl .nil)) ?_
      exact fun _ hw => ⟨(none, 0), by rw [(dec_bad1 hx (by omega)).1, (dec_bad1 hx (by omega)).2]; rfl, by rw [(dec_bad1 hx (by omega)).2]; exact (Hp.nilrow 34 10 (Hp.of_ch hw.ch)).fresh⟩
      )
    ·first
     | (exfalso; omega)
     | (
      refine jnt ?_
      refine jc_false rfl ?_
      refine jc_skip ?_
      refine jq_then ?_
      refine jc_seq ?_
      refine jsr ?_
      refine jz ?_
      refine jpc (goes_func rfl) (fun w1 hw1 => rright_any p ad c w1 (ElAt.of_row wn_len rfl (hw1.get (A := .row ad p.wins.length c 34 10 (p.wins.flatMap Wn.c)) mem0)) (by have := rdPf_len hp; omega)) ?_
      refine jl_bool (fun h85 => ?_) (fun h85 => ?_)
      ·skip
       refine jz ?_
       refine jnt ?_
       refine jc_false rfl ?_
       refine jc_skip ?_
       refine jq_then ?_
       refine jsr ?_
       refine jz ?_
       refine jst ?_
       refine jz ?_
       refine jnt ?_
       refine jc_ret ?_
       refine jq_res (.inl rfl) rfl (.cell rfl (by first | exact ld_agg (by first | exact mem0 | exact mem1 | exact mem2 | exact mem3 | exact mem4 | exact mem5) (by repeat constructor) | exact ld_agg (by first | exact mem0 | exact mem1 | exact mem2 | exact mem3 | exact mem4 | exact mem5) (by assumption)) (.tmp rfl .nil)) ?_
       exact fun _ hw => ⟨(ad, c), by rw [(dec_ok hp hx (by omega) (by assumption)).1, (dec_ok hp hx (by omega) (by assumption)).2]; rfl, by rw [(dec_ok hp hx (by omega) (by assumption)).2]; exact (hw.part (.cons del0 .nil)).fresh⟩
      ·skip
       refine jz ?_
       refine jnt ?_
       refine jc_true rfl ?_
       refine jsr ?_
       refine jy (y_build Built.nil) ?_
       refine jst ?_
       refine jz ?_
       refine jnt ?_
       refine jc_ret ?_
       refine jq_then_ret ?_
       refine jq_res (.inl rfl) rfl (.cell rfl (by first | exact ld_agg (by first | exact mem0 | exact mem1 | exact mem2 | exact mem3 | exact mem4 | exact mem5) (by repeat constructor) | exact ld_agg (by first | exact mem0 | exact mem1 | exact mem2 | exact mem3 | exact mem4 | exact mem5) (by assumption)) (.tmp rfl .nil)) ?_
       exact fun _ hw => ⟨(none, 0), by rw [(dec_bad2 hp hx (by omega) (by assumption)).1, (dec_bad2 hp hx (by omega) (by assumption)).2]; rfl, by rw [(dec_bad2 hp hx (by omega) (by assumption)).2]; exact (Hp.nilrow 34 10 (Hp.of_ch hw.ch)).fresh⟩
      )
    )

theorem rsame_any (p q : Pf) (ad aq : Option Addr) (c d : Nat) (w : World) (hE : ElAt w ad 10 (p.wins.map Wn.c)) (hQ : ElAt w aq 10 (q.wins.map Wn.c)) (hl : p.wins.length ≤ 1000000000) (hm : q.wins.length ≤ 1000000000) :
  Calls Tryz.prog 30 #[.agg (Pf.c p ad c).toArray, .agg (Pf.c q aq d).toArray] w fun e w' => e = .returned (.bool (pfSame p q)) ∧ Ch [] w w' := by
 refine calls_of (n := 50) (E := [(0, .agg (Pf.c p ad c).toArray), (1, .agg (Pf.c q aq d).toArray)]) (W := Hp w [] []) Tryz.func30 rfl rfl (Nat.le_of_ble_eq_true rfl) rfl (Hp.nil _ _) ?_
 refine jsr ?_
 refine jl_m rfl (by decide) rfl (m_box rfl rfl) (fun b2 => ?_)
 refine jl_m rfl (by decide) rfl (m_box rfl rfl) (fun b3 => ?_)
 refine jz ?_
 refine jnt ?_
 refine jc_seq ?_
 refine jsr ?_
 refine jz ?_
 refine jz ?_
 refine jy (y_len_slice rfl) ?_
 refine jz ?_
 refine jz ?_
 refine jy (y_len_slice rfl) ?_
 refine jy (y_neq rfl rfl) ?_
 refine jl_prop (fun h12 => ?_) (fun h12 => ?_)
 ·first
  | (exfalso; omega)
  | (
   refine jnt ?_
   refine jc_true rfl ?_
   refine jsr ?_
   refine jz ?_
   refine jnt ?_
   refine jc_ret ?_
   refine jq_then_ret ?_
   refine jq_ret1 rfl rfl ?_
   exact fun _ hw => ⟨congrArg (fun b => Ending.returned (Value.bool b)) (pf_ne (.inr (.inr (.inr (len_ne (by omega)))))), hw.ch⟩
   )
 ·first
  | (exfalso; omega)
  | (
   refine jnt ?_
   refine jc_false rfl ?_
   refine jc_skip ?_
   refine jq_then ?_
   refine jc_seq ?_
   refine jsr ?_
   refine jz ?_
   refine jnt ?_
   refine jc_block ?_
   refine jc_loop (fun (i : Nat) => [(2, .pointer (some ⟨b2, 0, none⟩)), (3, .pointer (some ⟨b3, 0, none⟩)), (5, .int .i64 (i : Nat))]) (fun (i : Nat) => fun w' => (i ≤ p.wins.length ∧ p.wins.take i = q.wins.take i) ∧ Hp w [] [.cells b3 (Pf.c q aq d), .cells b2 (Pf.c p ad c)] w') (fun (i : Nat) => p.wins.length - i) 0 ?_ ?_ ?_
   ·exact ⟨rfl, rfl, rfl, trivial⟩
   ·exact fun _ h => ⟨⟨by omega, rfl⟩, h⟩
   ·intro i
    refine jc_and (fun hi => ?_)
    refine jc_seq ?_
    refine jsr ?_
    refine jz ?_
    refine jz ?_
    refine jz ?_
    refine jy (y_len_slice rfl) ?_
    refine jy (y_lss rfl rfl) ?_
    refine jl_prop (fun h17 => ?_) (fun h17 => ?_)
    ·first
     | (exfalso; omega)
     | (
      have hlt : i < p.wins.length := by omega
      have hlq : i < q.wins.length := by omega
      obtain ⟨bb, oo, ea, hold⟩ := hE.get hlt
      obtain ⟨bq, oq, eq, holq⟩ := hQ.get hlq
      subst ea
      subst eq
      generalize hxe : p.wins[i]'hlt = x at *
      generalize hye : q.wins[i]'hlq = y at *
      refine jnt ?_
      refine jc_true rfl ?_
      refine jc_skip ?_
      refine jq_then ?_
      refine jc_seq ?_
      refine jc_block ?_
      refine jc_seq ?_
      refine jc_draw (by kernel_rfl) (fun _ h => h.drew) ?_
      refine juz ?_
      refine juz ?_
      refine juz ?_
      refine juy (y_indexAddr_slice (off := oo + i * 10) rfl rfl (by omega) (by omega) (by omega)) ?_
      refine juy (y_loadAgg_old rfl rfl hold (by simp)) ?_
      refine juz ?_
      refine juz ?_
      refine juz ?_
      refine juy (y_indexAddr_slice (off := oq + i * 10) rfl rfl (by omega) (by omega) (by omega)) ?_
      refine juy (y_loadAgg_old rfl rfl holq (by simp)) ?_
      refine juy (y_neq_agg rfl rfl (by kernel_rfl) (fun w => eq_rwn 9997 x y w)) ?_
      refine ju_bool (fun h30 => ?_) (fun h30 => ?_)
      ·skip
       refine ju_nil ?_
       refine jq_then ?_
       refine jc_true rfl ?_
       refine jsr ?_
       refine jz ?_
       refine jnt ?_
       refine jc_ret ?_
       refine jq_block_ret ?_
       refine jq_then_ret ?_
       refine jq_then_ret ?_
       refine jq_block_ret ?_
       refine jq_then_ret ?_
       refine jq_ret1 rfl rfl ?_
       exact fun _ hw => ⟨congrArg (fun b => Ending.returned (Value.bool b)) (pf_ne (.inr (.inr (.inr (get_ne hlt hlq hxe hye (by first | assumption | simp_all)))))), hw.ch⟩
      ·skip
       refine ju_nil ?_
       refine jq_then ?_
       refine jc_false rfl ?_
       refine jc_skip ?_
       refine jq_block ?_
       refine jq_then ?_
       refine jc_region ?_
       refine jz ?_
       refine jy (y_add_fits rfl rfl (by simp only [fits]; omega)) ?_
       refine jz ?_
       refine jl_nil ?_
       refine jq_round (i := i) (i + 1) ?_ ?_ ?_
       ·omega
       ·exact ⟨rfl, rfl, lk_int rfl (by omega), trivial⟩
       ·exact fun _ h => ⟨⟨by omega, take_both hlt hlq hi.2 (by rw [hxe, hye]; first | assumption | simp_all)⟩, h⟩
      )
    ·first
     | (exfalso; omega)
     | (
      refine jnt ?_
      refine jc_false rfl ?_
      refine jc_exit ?_
      refine jq_then_exit ?_
      refine jq_then_exit ?_
      refine jq_hit ?_
      refine jq_then ?_
      refine jsr ?_
      refine jz ?_
      refine jz ?_
      refine jz ?_
      refine jz ?_
      refine jy (y_eql rfl rfl) ?_
      refine jl_prop (fun h35 => ?_) (fun h35 => ?_)
      ·first
       | (exfalso; omega)
       | (
        refine jz ?_
        refine jz ?_
        refine jz ?_
        refine jz ?_
        refine jz ?_
        refine jy (y_seql rfl rfl) ?_
        refine jl_prop (fun h41 => ?_) (fun h41 => ?_)
        ·skip
         refine jy (y_pick_true rfl rfl) ?_
         refine jz ?_
         refine jz ?_
         refine jz ?_
         refine jz ?_
         refine jz ?_
         refine jy (y_seql rfl rfl) ?_
         refine jy (y_pick_true rfl rfl) ?_
         refine jz ?_
         refine jnt ?_
         refine jc_ret ?_
         refine jq_ret1 rfl rfl ?_
         exact fun _ hw => ⟨congrArg (fun b => Ending.returned (Value.bool b)) (by have h1 := hi.2; rw [List.take_of_length_le (by omega), List.take_of_length_le (by omega)] at h1; first | exact pf_ne (.inl (by assumption)) | exact pf_ne (.inr (.inl (by assumption))) | (rw [Bool.eq_iff_iff]; simp only [pfSame, decide_eq_true_eq]; exact ⟨fun h => of_decide_eq_true (pf_eq (by assumption) (by assumption) h h1).symm, fun h => by rw [h]⟩)), hw.ch⟩
        ·skip
         refine jy (y_pick_true rfl rfl) ?_
         refine jz ?_
         refine jsk ?_
         refine jsk ?_
         refine jsk ?_
         refine jsk ?_
         refine jsk ?_
         refine jy (y_pick_false rfl rfl) ?_
         refine jz ?_
         refine jnt ?_
         refine jc_ret ?_
         refine jq_ret1 rfl rfl ?_
         exact fun _ hw => ⟨congrArg (fun b => Ending.returned (Value.bool b)) (by have h1 := hi.2; rw [List.take_of_length_le (by omega), List.take_of_length_le (by omega)] at h1; first | exact pf_ne (.inl (by assumption)) | exact pf_ne (.inr (.inl (by assumption))) | (rw [Bool.eq_iff_iff]; simp only [pfSame, decide_eq_true_eq]; exact ⟨fun h => of_decide_eq_true (pf_eq (by assumption) (by assumption) h h1).symm, fun h => by rw [h]⟩)), hw.ch⟩
        )
      ·first
       | (exfalso; omega)
       | (
        refine jz ?_
        refine jsk ?_
        refine jsk ?_
        refine jsk ?_
        refine jsk ?_
        refine jsk ?_
        refine jy (y_pick_false rfl rfl) ?_
        refine jz ?_
        refine jsk ?_
        refine jsk ?_
        refine jsk ?_
        refine jsk ?_
        refine jsk ?_
        refine jy (y_pick_false rfl rfl) ?_
        refine jz ?_
        refine jnt ?_
        refine jc_ret ?_
        refine jq_ret1 rfl rfl ?_
        exact fun _ hw => ⟨congrArg (fun b => Ending.returned (Value.bool b)) (by have h1 := hi.2; rw [List.take_of_length_le (by omega), List.take_of_length_le (by omega)] at h1; first | exact pf_ne (.inl (by assumption)) | exact pf_ne (.inr (.inl (by assumption))) | (rw [Bool.eq_iff_iff]; simp only [pfSame, decide_eq_true_eq]; exact ⟨fun h => of_decide_eq_true (pf_eq (by assumption) (by assumption) h h1).symm, fun h => by rw [h]⟩)), hw.ch⟩
        )
      )
   )

end Go.Proofs.YtddpoigfliaklaaGreat