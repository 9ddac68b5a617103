/- The walks of the document's answer for notes: reading, likeness; and of the law's turning into it. Written by program (walk.py) out of a table of contracts and invariants. -/
import Derived.Test.YtamlleachfngeaaGreatNp
import Derived.Test.YtamlleachfngeaaGreatCq
namespace Go.Proofs.YtamlleachfngeaaGreat
open Go.RowKit
set_option maxRecDepth 100000
set_option maxHeartbeats 2000000
set_option linter.unusedVariables false
set_option linter.unusedSimpArgs false

theorem eq_rtk (m : Nat) (x y : Tk) (w : World) : (Op.equalIn (m + 2) 108 (.agg (Tk.c x).toArray) (.agg (Tk.c y).toArray)).run Tryz.prog w = .ok (decide (x = y)) w := by
  rw [run_equalIn_agg _ _ 108 _ _ (by kernel_rfl) (by kernel_rfl), show (Program.fieldsOf Tryz.prog 108).toList = [((fsOf (Tryz.prog.underlying 108)).getD 0 default), ((fsOf (Tryz.prog.underlying 108)).getD 1 default), ((fsOf (Tryz.prog.underlying 108)).getD 2 default), ((fsOf (Tryz.prog.underlying 108)).getD 3 default), ((fsOf (Tryz.prog.underlying 108)).getD 4 default), ((fsOf (Tryz.prog.underlying 108)).getD 5 default), ((fsOf (Tryz.prog.underlying 108)).getD 6 default), ((fsOf (Tryz.prog.underlying 108)).getD 7 default)] from by kernel_rfl]
  refine Eq.trans (eqF_cell (by kernel_rfl) (T := 9) (by kernel_rfl) (off := 0) (by kernel_rfl) rfl rfl (equalIn_str (m) _ _ w) (eqF_cell (by kernel_rfl) (T := 24) (by kernel_rfl) (off := 1) (by kernel_rfl) rfl rfl (equalIn_int (m) _ _ w) (eqF_cell (by kernel_rfl) (T := 24) (by kernel_rfl) (off := 2) (by kernel_rfl) rfl rfl (equalIn_int (m) _ _ w) (eqF_cell (by kernel_rfl) (T := 24) (by kernel_rfl) (off := 3) (by kernel_rfl) rfl rfl (equalIn_int (m) _ _ w) (eqF_cell (by kernel_rfl) (T := 24) (by kernel_rfl) (off := 4) (by kernel_rfl) rfl rfl (equalIn_int (m) _ _ w) (eqF_cell (by kernel_rfl) (T := 9) (by kernel_rfl) (off := 5) (by kernel_rfl) rfl rfl (equalIn_str (m) _ _ w) (eqF_cell (by kernel_rfl) (T := 24) (by kernel_rfl) (off := 6) (by kernel_rfl) rfl rfl (equalIn_int (m) _ _ w) (eqF_cell (by kernel_rfl) (T := 9) (by kernel_rfl) (off := 7) (by kernel_rfl) rfl rfl (equalIn_str (m) _ _ w) eqF_nil)))))))) ?_
  congr 1
  rw [Bool.eq_iff_iff]
  cases x; cases y
  simp
theorem eq_rwn (m : Nat) (x y : Wn) (w : World) : (Op.equalIn (m + 3) 110 (.agg (Wn.c x).toArray) (.agg (Wn.c y).toArray)).run Tryz.prog w = .ok (decide (x = y)) w := by
  rw [run_equalIn_agg _ _ 110 _ _ (by kernel_rfl) (by kernel_rfl), show (Program.fieldsOf Tryz.prog 110).toList = [((fsOf (Tryz.prog.underlying 110)).getD 0 default), ((fsOf (Tryz.prog.underlying 110)).getD 1 default), ((fsOf (Tryz.prog.underlying 110)).getD 2 default)] from by kernel_rfl]
  refine Eq.trans (eqF_agg (by kernel_rfl) (T := 108) (by kernel_rfl) (off := 0) (by kernel_rfl) (by repeat constructor) (by repeat constructor) (eq_rtk m x.t y.t w) (eqF_cell (by kernel_rfl) (T := 9) (by kernel_rfl) (off := 8) (by kernel_rfl) rfl rfl (equalIn_str (m + 1) _ _ w) (eqF_cell (by kernel_rfl) (T := 24) (by kernel_rfl) (off := 9) (by kernel_rfl) rfl rfl (equalIn_int (m + 1) _ _ w) eqF_nil))) ?_
  congr 1
  rw [Bool.eq_iff_iff]
  cases x; cases y
  simp
theorem rmay_any (t : Tk) (w : World) :
  Calls Tryz.prog 65 #[.agg (Tk.c t).toArray] w fun e w' => e = .returned (.bool (tkMay t)) ∧ Ch [] w w' := by
 refine calls_of (n := 19) (E := [(0, .agg (Tk.c t).toArray)]) (W := Hp w [] []) Tryz.func65 rfl rfl (Nat.le_of_ble_eq_true rfl) rfl (Hp.nil _ _) ?_
 refine jsr ?_
 refine jl_m rfl (by decide) rfl (m_box rfl rfl) (fun b1 => ?_)
 refine jz ?_
 refine jnt ?_
 refine jsr ?_
 refine jz ?_
 refine jz ?_
 refine jy (y_len_str rfl) ?_
 refine jy (y_eql rfl rfl) ?_
 refine jl_prop (fun h6 => ?_) (fun h6 => ?_)
 ·first
  | (exfalso; omega)
  | (
   refine jz ?_
   refine jz ?_
   refine jz ?_
   refine jy (y_len_str rfl) ?_
   refine jy (y_eql rfl rfl) ?_
   refine jl_prop (fun h11 => ?_) (fun h11 => ?_)
   ·first
    | (exfalso; omega)
    | (
     refine jy (y_pick_true rfl rfl) ?_
     refine jz ?_
     refine jz ?_
     refine jz ?_
     refine jy (y_len_str rfl) ?_
     refine jy (y_leq rfl rfl) ?_
     refine jy (y_pick_true rfl rfl) ?_
     refine jz ?_
     refine jnt ?_
     refine jc_ret ?_
     refine jq_ret1 rfl rfl ?_
     exact fun _ hw => ⟨congrArg (fun b => Ending.returned (Value.bool b)) (by unfold tkMay; rw [Bool.eq_iff_iff]; simp only [Bool.and_eq_true, decide_eq_true_eq, Bool.false_eq_true, false_iff, true_iff]; omega), hw.ch⟩
     )
   ·first
    | (exfalso; omega)
    | (
     refine jy (y_pick_true rfl rfl) ?_
     refine jz ?_
     refine jsk ?_
     refine jsk ?_
     refine jsk ?_
     refine jsk ?_
     refine jy (y_pick_false rfl rfl) ?_
     refine jz ?_
     refine jnt ?_
     refine jc_ret ?_
     refine jq_ret1 rfl rfl ?_
     exact fun _ hw => ⟨congrArg (fun b => Ending.returned (Value.bool b)) (by unfold tkMay; rw [Bool.eq_iff_iff]; simp only [Bool.and_eq_true, decide_eq_true_eq, Bool.false_eq_true, false_iff, true_iff]; omega), hw.ch⟩
     )
   )
 ·first
  | (exfalso; omega)
  | (
   refine jz ?_
   refine jsk ?_
   refine jsk ?_
   refine jsk ?_
   refine jsk ?_
   refine jy (y_pick_false rfl rfl) ?_
   refine jz ?_
   refine jsk ?_
   refine jsk ?_
   refine jsk ?_
   refine jsk ?_
   refine jy (y_pick_false rfl rfl) ?_
   refine jz ?_
   refine jnt ?_
   refine jc_ret ?_
   refine jq_ret1 rfl rfl ?_
   exact fun _ hw => ⟨congrArg (fun b => Ending.returned (Value.bool b)) (by unfold tkMay; rw [Bool.eq_iff_iff]; simp only [Bool.and_eq_true, decide_eq_true_eq, Bool.false_eq_true, false_iff, true_iff]; omega), hw.ch⟩
   )

theorem rright_any (p : Pf) (ad : Option Addr) (c : Nat) (w : World) (hE : ElAt w ad 10 (p.wins.map Wn.c)) (hl : p.wins.length ≤ 1000000000) :
  Calls Tryz.prog 42 #[.agg (Pf.c p ad c).toArray] w fun e w' => e = .returned (.bool (pfRight p)) ∧ Ch [] w w' := by
 refine calls_of (n := 51) (E := [(0, .agg (Pf.c p ad c).toArray)]) (W := Hp w [] []) Tryz.func42 rfl rfl (Nat.le_of_ble_eq_true rfl) rfl (Hp.nil _ _) ?_
 refine jsr ?_
 refine jl_m rfl (by decide) rfl (m_box rfl rfl) (fun b1 => ?_)
 refine jz ?_
 refine jnt ?_
 refine jc_seq ?_
 refine jsr ?_
 refine jz ?_
 refine jnt ?_
 refine jc_block ?_
 refine jc_loop (fun (i : Nat) => [(1, .pointer (some ⟨b1, 0, none⟩)), (3, .int .i64 (i : Nat))]) (fun (i : Nat) => fun w' => (i ≤ p.wins.length ∧ ∀ z ∈ p.wins.take i, wnMay z = true) ∧ Hp w [] [.cells b1 (Pf.c p ad c)] w') (fun (i : Nat) => p.wins.length - i) 0 ?_ ?_ ?_
 ·exact ⟨rfl, rfl, trivial⟩
 ·exact fun _ h => ⟨⟨by omega, by simp⟩, h⟩
 ·intro i
  refine jc_and (fun hi => ?_)
  refine jc_seq ?_
  refine jsr ?_
  refine jz ?_
  refine jz ?_
  refine jz ?_
  refine jy (y_len_slice rfl) ?_
  refine jy (y_lss rfl rfl) ?_
  refine jl_prop (fun h8 => ?_) (fun h8 => ?_)
  ·first
   | (exfalso; omega)
   | (
    have hlt : i < p.wins.length := by omega
    obtain ⟨bb, oo, ea, hold⟩ := hE.get hlt
    subst ea
    generalize hxe : p.wins[i]'hlt = x at *
    refine jnt ?_
    refine jc_true rfl ?_
    refine jc_skip ?_
    refine jq_then ?_
    refine jc_seq ?_
    refine jc_block ?_
    refine jsr ?_
    refine jz ?_
    refine jz ?_
    refine jz ?_
    refine jy (y_indexAddr_slice (off := oo + i * 10) rfl rfl (by omega) (by omega) (by omega)) ?_
    refine jz ?_
    refine jy (y_loadAgg_old rfl rfl (hold.take 8) (by simp)) ?_
    refine jpc (goes_func rfl) (fun w1 hw1 => rmay_any x.t w1) ?_
    refine jl_bool (fun h17 => ?_) (fun h17 => ?_)
    ·skip
     refine jz ?_
     refine jz ?_
     refine jz ?_
     refine jz ?_
     refine jz ?_
     refine jy (y_indexAddr_slice (off := oo + i * 10) rfl rfl (by omega) (by omega) (by omega)) ?_
     refine jz ?_
     refine jy (y_load_old rfl (hold 8 _ rfl) (by simp)) ?_
     refine jy (y_len_str rfl) ?_
     refine jy (y_gtr rfl rfl) ?_
     refine jl_prop (fun h27 => ?_) (fun h27 => ?_)
     ·first
      | (exfalso; omega)
      | (
       refine jy (y_pick_false rfl rfl) ?_
       refine jnt ?_
       refine jc_true rfl ?_
       refine jsr ?_
       refine jz ?_
       refine jnt ?_
       refine jc_ret ?_
       refine jq_block_ret ?_
       refine jq_then_ret ?_
       refine jq_then_ret ?_
       refine jq_block_ret ?_
       refine jq_then_ret ?_
       refine jq_ret1 rfl rfl ?_
       exact fun _ hw => ⟨congrArg (fun b => Ending.returned (Value.bool b)) (right_no hlt hxe (by first | exact wn_no1 (by assumption) | exact wn_no2 (by omega))), hw.ch⟩
       )
     ·first
      | (exfalso; omega)
      | (
       refine jy (y_pick_false rfl rfl) ?_
       refine jnt ?_
       refine jc_false rfl ?_
       refine jc_skip ?_
       refine jq_block ?_
       refine jq_then ?_
       refine jc_region ?_
       refine jz ?_
       refine jy (y_add_fits rfl rfl (by simp only [fits]; omega)) ?_
       refine jz ?_
       refine jl_nil ?_
       refine jq_round (i := i) (i + 1) ?_ ?_ ?_
       ·omega
       ·exact ⟨rfl, lk_int rfl (by omega), trivial⟩
       ·exact fun _ h => ⟨⟨by omega, all_take hlt hi.2 (by rw [hxe]; simp only [wnMay, Bool.and_eq_true, decide_eq_true_eq]; exact ⟨by assumption, by omega⟩)⟩, h⟩
       )
    ·skip
     refine jz ?_
     refine jz ?_
     refine jsk ?_
     refine jsk ?_
     refine jsk ?_
     refine jsk ?_
     refine jsk ?_
     refine jsk ?_
     refine jsk ?_
     refine jsk ?_
     refine jy (y_pick_true rfl rfl) ?_
     refine jnt ?_
     refine jc_true rfl ?_
     refine jsr ?_
     refine jz ?_
     refine jnt ?_
     refine jc_ret ?_
     refine jq_block_ret ?_
     refine jq_then_ret ?_
     refine jq_then_ret ?_
     refine jq_block_ret ?_
     refine jq_then_ret ?_
     refine jq_ret1 rfl rfl ?_
     exact fun _ hw => ⟨congrArg (fun b => Ending.returned (Value.bool b)) (right_no hlt hxe (by first | exact wn_no1 (by assumption) | exact wn_no2 (by omega))), hw.ch⟩
    )
  ·first
   | (exfalso; omega)
   | (
    refine jnt ?_
    refine jc_false rfl ?_
    refine jc_exit ?_
    refine jq_then_exit ?_
    refine jq_then_exit ?_
    refine jq_hit ?_
    refine jq_then ?_
    refine jsr ?_
    refine jz ?_
    refine jz ?_
    refine jy (y_len_str rfl) ?_
    refine jy (y_leq rfl rfl) ?_
    refine jl_prop (fun h32 => ?_) (fun h32 => ?_)
    ·first
     | (exfalso; omega)
     | (
      refine jz ?_
      refine jz ?_
      refine jz ?_
      refine jy (y_len_str rfl) ?_
      refine jy (y_eql rfl rfl) ?_
      refine jl_prop (fun h37 => ?_) (fun h37 => ?_)
      ·first
       | (exfalso; omega)
       | (
        refine jz ?_
        refine jsk ?_
        refine jsk ?_
        refine jsk ?_
        refine jsk ?_
        refine jy (y_pick_true rfl rfl) ?_
        refine jy (y_pick_true rfl rfl) ?_
        refine jz ?_
        refine jz ?_
        refine jz ?_
        refine jy (y_len_slice rfl) ?_
        refine jy (y_leq rfl rfl) ?_
        refine jy (y_pick_true rfl rfl) ?_
        refine jz ?_
        refine jnt ?_
        refine jc_ret ?_
        refine jq_ret1 rfl rfl ?_
        exact fun _ hw => ⟨congrArg (fun b => Ending.returned (Value.bool b)) (by rw [Bool.eq_iff_iff, pfRight_iff]; have hall : ∀ z ∈ p.wins, wnMay z = true := (by have h1 := hi.2; rwa [List.take_of_length_le (by omega)] at h1); first | exact ⟨fun h => (by have h3 := of_decide_eq_true h; exact ⟨hall, by omega, by omega, by omega⟩), fun h => decide_eq_true (by omega)⟩ | exact ⟨fun h => absurd h (by decide), fun h => (by obtain ⟨_, h2, h3, h4⟩ := h; omega)⟩), hw.ch⟩
        )
      ·first
       | (exfalso; omega)
       | (
        refine jz ?_
        refine jz ?_
        refine jz ?_
        refine jy (y_len_str rfl) ?_
        refine jy (y_eql rfl rfl) ?_
        refine jl_prop (fun h42 => ?_) (fun h42 => ?_)
        ·first
         | (exfalso; omega)
         | (
          refine jy (y_pick_false rfl rfl) ?_
          refine jy (y_pick_true rfl rfl) ?_
          refine jz ?_
          refine jz ?_
          refine jz ?_
          refine jy (y_len_slice rfl) ?_
          refine jy (y_leq rfl rfl) ?_
          refine jy (y_pick_true rfl rfl) ?_
          refine jz ?_
          refine jnt ?_
          refine jc_ret ?_
          refine jq_ret1 rfl rfl ?_
          exact fun _ hw => ⟨congrArg (fun b => Ending.returned (Value.bool b)) (by rw [Bool.eq_iff_iff, pfRight_iff]; have hall : ∀ z ∈ p.wins, wnMay z = true := (by have h1 := hi.2; rwa [List.take_of_length_le (by omega)] at h1); first | exact ⟨fun h => (by have h3 := of_decide_eq_true h; exact ⟨hall, by omega, by omega, by omega⟩), fun h => decide_eq_true (by omega)⟩ | exact ⟨fun h => absurd h (by decide), fun h => (by obtain ⟨_, h2, h3, h4⟩ := h; omega)⟩), hw.ch⟩
          )
        ·first
         | (exfalso; omega)
         | (
          refine jy (y_pick_false rfl rfl) ?_
          refine jy (y_pick_true rfl rfl) ?_
          refine jz ?_
          refine jsk ?_
          refine jsk ?_
          refine jsk ?_
          refine jsk ?_
          refine jy (y_pick_false rfl rfl) ?_
          refine jz ?_
          refine jnt ?_
          refine jc_ret ?_
          refine jq_ret1 rfl rfl ?_
          exact fun _ hw => ⟨congrArg (fun b => Ending.returned (Value.bool b)) (by rw [Bool.eq_iff_iff, pfRight_iff]; have hall : ∀ z ∈ p.wins, wnMay z = true := (by have h1 := hi.2; rwa [List.take_of_length_le (by omega)] at h1); first | exact ⟨fun h => (by have h3 := of_decide_eq_true h; exact ⟨hall, by omega, by omega, by omega⟩), fun h => decide_eq_true (by omega)⟩ | exact ⟨fun h => absurd h (by decide), fun h => (by obtain ⟨_, h2, h3, h4⟩ := h; omega)⟩), hw.ch⟩
          )
        )
      )
    ·first
     | (exfalso; omega)
     | (
      refine jz ?_
      refine jsk ?_
      refine jsk ?_
      refine jsk ?_
      refine jsk ?_
      refine jsk ?_
      refine jsk ?_
      refine jsk ?_
      refine jsk ?_
      refine jsk ?_
      refine jsk ?_
      refine jy (y_pick_false rfl rfl) ?_
      refine jz ?_
      refine jsk ?_
      refine jsk ?_
      refine jsk ?_
      refine jsk ?_
      refine jy (y_pick_false rfl rfl) ?_
      refine jz ?_
      refine jnt ?_
      refine jc_ret ?_
      refine jq_ret1 rfl rfl ?_
      exact fun _ hw => ⟨congrArg (fun b => Ending.returned (Value.bool b)) (by rw [Bool.eq_iff_iff, pfRight_iff]; have hall : ∀ z ∈ p.wins, wnMay z = true := (by have h1 := hi.2; rwa [List.take_of_length_le (by omega)] at h1); first | exact ⟨fun h => (by have h3 := of_decide_eq_true h; exact ⟨hall, by omega, by omega, by omega⟩), fun h => decide_eq_true (by omega)⟩ | exact ⟨fun h => absurd h (by decide), fun h => (by obtain ⟨_, h2, h3, h4⟩ := h; omega)⟩), hw.ch⟩
      )
    )

theorem rsame_any (p q : Pf) (ad aq : Option Addr) (c d : Nat) (w : World) (hE : ElAt w ad 10 (p.wins.map Wn.c)) (hQ : ElAt w aq 10 (q.wins.map Wn.c)) (hl : p.wins.length ≤ 1000000000) (hm : q.wins.length ≤ 1000000000) :
  Calls Tryz.prog 57 #[.agg (Pf.c p ad c).toArray, .agg (Pf.c q aq d).toArray] w fun e w' => e = .returned (.bool (pfSame p q)) ∧ Ch [] w w' := by
 refine calls_of (n := 50) (E := [(0, .agg (Pf.c p ad c).toArray), (1, .agg (Pf.c q aq d).toArray)]) (W := Hp w [] []) Tryz.func57 rfl rfl (Nat.le_of_ble_eq_true rfl) rfl (Hp.nil _ _) ?_
 refine jsr ?_
 refine jl_m rfl (by decide) rfl (m_box rfl rfl) (fun b2 => ?_)
 refine jl_m rfl (by decide) rfl (m_box rfl rfl) (fun b3 => ?_)
 refine jz ?_
 refine jnt ?_
 refine jc_seq ?_
 refine jsr ?_
 refine jz ?_
 refine jz ?_
 refine jy (y_len_slice rfl) ?_
 refine jz ?_
 refine jz ?_
 refine jy (y_len_slice rfl) ?_
 refine jy (y_neq rfl rfl) ?_
 refine jl_prop (fun h12 => ?_) (fun h12 => ?_)
 ·first
  | (exfalso; omega)
  | (
   refine jnt ?_
   refine jc_true rfl ?_
   refine jsr ?_
   refine jz ?_
   refine jnt ?_
   refine jc_ret ?_
   refine jq_then_ret ?_
   refine jq_ret1 rfl rfl ?_
   exact fun _ hw => ⟨congrArg (fun b => Ending.returned (Value.bool b)) (pf_ne (.inr (.inr (.inr (len_ne (by omega)))))), hw.ch⟩
   )
 ·first
  | (exfalso; omega)
  | (
   refine jnt ?_
   refine jc_false rfl ?_
   refine jc_skip ?_
   refine jq_then ?_
   refine jc_seq ?_
   refine jsr ?_
   refine jz ?_
   refine jnt ?_
   refine jc_block ?_
   refine jc_loop (fun (i : Nat) => [(2, .pointer (some ⟨b2, 0, none⟩)), (3, .pointer (some ⟨b3, 0, none⟩)), (5, .int .i64 (i : Nat))]) (fun (i : Nat) => fun w' => (i ≤ p.wins.length ∧ p.wins.take i = q.wins.take i) ∧ Hp w [] [.cells b3 (Pf.c q aq d), .cells b2 (Pf.c p ad c)] w') (fun (i : Nat) => p.wins.length - i) 0 ?_ ?_ ?_
   ·exact ⟨rfl, rfl, rfl, trivial⟩
   ·exact fun _ h => ⟨⟨by omega, rfl⟩, h⟩
   ·intro i
    refine jc_and (fun hi => ?_)
    refine jc_seq ?_
    refine jsr ?_
    refine jz ?_
    refine jz ?_
    refine jz ?_
    refine jy (y_len_slice rfl) ?_
    refine jy (y_lss rfl rfl) ?_
    refine jl_prop (fun h17 => ?_) (fun h17 => ?_)
    ·first
     | (exfalso; omega)
     | (
      have hlt : i < p.wins.length := by omega
      have hlq : i < q.wins.length := by omega
      obtain ⟨bb, oo, ea, hold⟩ := hE.get hlt
      obtain ⟨bq, oq, eq, holq⟩ := hQ.get hlq
      subst ea
      subst eq
      generalize hxe : p.wins[i]'hlt = x at *
      generalize hye : q.wins[i]'hlq = y at *
      refine jnt ?_
      refine jc_true rfl ?_
      refine jc_skip ?_
      refine jq_then ?_
      refine jc_seq ?_
      refine jc_block ?_
      refine jc_seq ?_
      refine jc_draw (by kernel_rfl) (fun _ h => h.drew) ?_
      refine juz ?_
      refine juz ?_
      refine juz ?_
      refine juy (y_indexAddr_slice (off := oo + i * 10) rfl rfl (by omega) (by omega) (by omega)) ?_
      refine juy (y_loadAgg_old rfl rfl hold (by simp)) ?_
      refine juz ?_
      refine juz ?_
      refine juz ?_
      refine juy (y_indexAddr_slice (off := oq + i * 10) rfl rfl (by omega) (by omega) (by omega)) ?_
      refine juy (y_loadAgg_old rfl rfl holq (by simp)) ?_
      refine juy (y_neq_agg rfl rfl (by kernel_rfl) (fun w => eq_rwn 9997 x y w)) ?_
      refine ju_bool (fun h30 => ?_) (fun h30 => ?_)
      ·skip
       refine ju_nil ?_
       refine jq_then ?_
       refine jc_true rfl ?_
       refine jsr ?_
       refine jz ?_
       refine jnt ?_
       refine jc_ret ?_
       refine jq_block_ret ?_
       refine jq_then_ret ?_
       refine jq_then_ret ?_
       refine jq_block_ret ?_
       refine jq_then_ret ?_
       refine jq_ret1 rfl rfl ?_
       exact fun _ hw => ⟨congrArg (fun b => Ending.returned (Value.bool b)) (pf_ne (.inr (.inr (.inr (get_ne hlt hlq hxe hye (by first | assumption | simp_all)))))), hw.ch⟩
      ·skip
       refine ju_nil ?_
       refine jq_then ?_
       refine jc_false rfl ?_
       refine jc_skip ?_
       refine jq_block ?_
       refine jq_then ?_
       refine jc_region ?_
       refine jz ?_
       refine jy (y_add_fits rfl rfl (by simp only [fits]; omega)) ?_
       refine jz ?_
       refine jl_nil ?_
       refine jq_round (i := i) (i + 1) ?_ ?_ ?_
       ·omega
       ·exact ⟨rfl, rfl, lk_int rfl (by omega), trivial⟩
       ·exact fun _ h => ⟨⟨by omega, take_both hlt hlq hi.2 (by rw [hxe, hye]; first | assumption | simp_all)⟩, h⟩
      )
    ·first
     | (exfalso; omega)
     | (
      refine jnt ?_
      refine jc_false rfl ?_
      refine jc_exit ?_
      refine jq_then_exit ?_
      refine jq_then_exit ?_
      refine jq_hit ?_
      refine jq_then ?_
      refine jsr ?_
      refine jz ?_
      refine jz ?_
      refine jz ?_
      refine jz ?_
      refine jy (y_eql rfl rfl) ?_
      refine jl_prop (fun h35 => ?_) (fun h35 => ?_)
      ·first
       | (exfalso; omega)
       | (
        refine jz ?_
        refine jz ?_
        refine jz ?_
        refine jz ?_
        refine jz ?_
        refine jy (y_seql rfl rfl) ?_
        refine jl_prop (fun h41 => ?_) (fun h41 => ?_)
        ·skip
         refine jy (y_pick_true rfl rfl) ?_
         refine jz ?_
         refine jz ?_
         refine jz ?_
         refine jz ?_
         refine jz ?_
         refine jy (y_seql rfl rfl) ?_
         refine jy (y_pick_true rfl rfl) ?_
         refine jz ?_
         refine jnt ?_
         refine jc_ret ?_
         refine jq_ret1 rfl rfl ?_
         exact fun _ hw => ⟨congrArg (fun b => Ending.returned (Value.bool b)) (by have h1 := hi.2; rw [List.take_of_length_le (by omega), List.take_of_length_le (by omega)] at h1; first | exact pf_ne (.inl (by assumption)) | exact pf_ne (.inr (.inl (by assumption))) | (rw [Bool.eq_iff_iff]; simp only [pfSame, decide_eq_true_eq]; exact ⟨fun h => of_decide_eq_true (pf_eq (by assumption) (by assumption) h h1).symm, fun h => by rw [h]⟩)), hw.ch⟩
        ·skip
         refine jy (y_pick_true rfl rfl) ?_
         refine jz ?_
         refine jsk ?_
         refine jsk ?_
         refine jsk ?_
         refine jsk ?_
         refine jsk ?_
         refine jy (y_pick_false rfl rfl) ?_
         refine jz ?_
         refine jnt ?_
         refine jc_ret ?_
         refine jq_ret1 rfl rfl ?_
         exact fun _ hw => ⟨congrArg (fun b => Ending.returned (Value.bool b)) (by have h1 := hi.2; rw [List.take_of_length_le (by omega), List.take_of_length_le (by omega)] at h1; first | exact pf_ne (.inl (by assumption)) | exact pf_ne (.inr (.inl (by assumption))) | (rw [Bool.eq_iff_iff]; simp only [pfSame, decide_eq_true_eq]; exact ⟨fun h => of_decide_eq_true (pf_eq (by assumption) (by assumption) h h1).symm, fun h => by rw [h]⟩)), hw.ch⟩
        )
      ·first
       | (exfalso; omega)
       | (
        refine jz ?_
        refine jsk ?_
        refine jsk ?_
        refine jsk ?_
        refine jsk ?_
        refine jsk ?_
        refine jy (y_pick_false rfl rfl) ?_
        refine jz ?_
        refine jsk ?_
        refine jsk ?_
        refine jsk ?_
        refine jsk ?_
        refine jsk ?_
        refine jy (y_pick_false rfl rfl) ?_
        refine jz ?_
        refine jnt ?_
        refine jc_ret ?_
        refine jq_ret1 rfl rfl ?_
        exact fun _ hw => ⟨congrArg (fun b => Ending.returned (Value.bool b)) (by have h1 := hi.2; rw [List.take_of_length_le (by omega), List.take_of_length_le (by omega)] at h1; first | exact pf_ne (.inl (by assumption)) | exact pf_ne (.inr (.inl (by assumption))) | (rw [Bool.eq_iff_iff]; simp only [pfSame, decide_eq_true_eq]; exact ⟨fun h => of_decide_eq_true (pf_eq (by assumption) (by assumption) h h1).symm, fun h => by rw [h]⟩)), hw.ch⟩
        )
      )
   )

end Go.Proofs.YtamlleachfngeaaGreat