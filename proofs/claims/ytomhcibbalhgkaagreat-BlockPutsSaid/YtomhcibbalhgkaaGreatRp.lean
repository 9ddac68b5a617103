/- The walks of the document's answer for coins, part three: whole transactions. Written by program (walk.py) out of a table of contracts and invariants. -/
import Derived.Test.YtomhcibbalhgkaaGreatNp
import Derived.Test.YtomhcibbalhgkaaGreatCq
import Derived.Test.YtomhcibbalhgkaaGreatCi
import Derived.Test.YtomhcibbalhgkaaGreatJu
namespace Go.Proofs.YtomhcibbalhgkaaGreat
open Go.RowKit
set_option maxRecDepth 100000
set_option maxHeartbeats 2000000
set_option linter.unusedVariables false
set_option linter.unusedSimpArgs false
attribute [local irreducible] Yields Makes Writes

theorem eq_rtk (m : Nat) (x y : Tk) (w : World) : (Op.equalIn (m + 2) 140 (.agg (Tk.c x).toArray) (.agg (Tk.c y).toArray)).run Tryz.prog w = .ok (decide (x = y)) w := by
  rw [run_equalIn_agg _ _ 140 _ _ (by kernel_rfl) (by kernel_rfl), show (Program.fieldsOf Tryz.prog 140).toList = [((fsOf (Tryz.prog.underlying 140)).getD 0 default), ((fsOf (Tryz.prog.underlying 140)).getD 1 default), ((fsOf (Tryz.prog.underlying 140)).getD 2 default), ((fsOf (Tryz.prog.underlying 140)).getD 3 default), ((fsOf (Tryz.prog.underlying 140)).getD 4 default), ((fsOf (Tryz.prog.underlying 140)).getD 5 default), ((fsOf (Tryz.prog.underlying 140)).getD 6 default), ((fsOf (Tryz.prog.underlying 140)).getD 7 default)] from by kernel_rfl]
  refine Eq.trans (eqF_cell (by kernel_rfl) (T := 9) (by kernel_rfl) (off := 0) (by kernel_rfl) rfl rfl (equalIn_str (m) _ _ w) (eqF_cell (by kernel_rfl) (T := 48) (by kernel_rfl) (off := 1) (by kernel_rfl) rfl rfl (equalIn_int (m) _ _ w) (eqF_cell (by kernel_rfl) (T := 48) (by kernel_rfl) (off := 2) (by kernel_rfl) rfl rfl (equalIn_int (m) _ _ w) (eqF_cell (by kernel_rfl) (T := 48) (by kernel_rfl) (off := 3) (by kernel_rfl) rfl rfl (equalIn_int (m) _ _ w) (eqF_cell (by kernel_rfl) (T := 48) (by kernel_rfl) (off := 4) (by kernel_rfl) rfl rfl (equalIn_int (m) _ _ w) (eqF_cell (by kernel_rfl) (T := 9) (by kernel_rfl) (off := 5) (by kernel_rfl) rfl rfl (equalIn_str (m) _ _ w) (eqF_cell (by kernel_rfl) (T := 48) (by kernel_rfl) (off := 6) (by kernel_rfl) rfl rfl (equalIn_int (m) _ _ w) (eqF_cell (by kernel_rfl) (T := 9) (by kernel_rfl) (off := 7) (by kernel_rfl) rfl rfl (equalIn_str (m) _ _ w) eqF_nil)))))))) ?_
  congr 1
  rw [Bool.eq_iff_iff]
  cases x; cases y
  simp
theorem eq_rwn (m : Nat) (x y : Wn) (w : World) : (Op.equalIn (m + 3) 142 (.agg (Wn.c x).toArray) (.agg (Wn.c y).toArray)).run Tryz.prog w = .ok (decide (x = y)) w := by
  rw [run_equalIn_agg _ _ 142 _ _ (by kernel_rfl) (by kernel_rfl), show (Program.fieldsOf Tryz.prog 142).toList = [((fsOf (Tryz.prog.underlying 142)).getD 0 default), ((fsOf (Tryz.prog.underlying 142)).getD 1 default), ((fsOf (Tryz.prog.underlying 142)).getD 2 default)] from by kernel_rfl]
  refine Eq.trans (eqF_agg (by kernel_rfl) (T := 140) (by kernel_rfl) (off := 0) (by kernel_rfl) (by repeat constructor) (by repeat constructor) (eq_rtk m x.t y.t w) (eqF_cell (by kernel_rfl) (T := 9) (by kernel_rfl) (off := 8) (by kernel_rfl) rfl rfl (equalIn_str (m + 1) _ _ w) (eqF_cell (by kernel_rfl) (T := 48) (by kernel_rfl) (off := 9) (by kernel_rfl) rfl rfl (equalIn_int (m + 1) _ _ w) eqF_nil))) ?_
  congr 1
  rw [Bool.eq_iff_iff]
  cases x; cases y
  simp
theorem rmay_any (t : Tk) (w : World) :
  Calls Tryz.prog 91 #[.agg (Tk.c t).toArray] w fun e w' => e = .returned (.bool (tkMay t)) ∧ Ch [] w w' := by
 refine calls_of (n := 19) (E := [(0, .agg (Tk.c t).toArray)]) (W := Hp w [] []) Tryz.func91 rfl rfl (Nat.le_of_ble_eq_true rfl) rfl (Hp.nil _ _) ?_
 refine jsr ?_
 refine jl_m rfl (by decide) rfl (m_box rfl rfl) (fun b1 => ?_)
 refine jz ?_
 refine jnt ?_
 refine jsr ?_
 refine jz ?_
 refine jz ?_
 refine jy (y_len_str rfl) ?_
 refine jy (y_eql rfl rfl) ?_
 refine jl_prop (fun h6 => ?_) (fun h6 => ?_)
 ·first
  | (exfalso; omega)
  | (
   refine jz ?_
   refine jz ?_
   refine jz ?_
   refine jy (y_len_str rfl) ?_
   refine jy (y_eql rfl rfl) ?_
   refine jl_prop (fun h11 => ?_) (fun h11 => ?_)
   ·first
    | (exfalso; omega)
    | (
     refine jy (y_pick_true rfl rfl) ?_
     refine jz ?_
     refine jz ?_
     refine jz ?_
     refine jy (y_len_str rfl) ?_
     refine jy (y_leq rfl rfl) ?_
     refine jy (y_pick_true rfl rfl) ?_
     refine jz ?_
     refine jnt ?_
     refine jc_ret ?_
     refine jq_ret1 rfl rfl ?_
     exact fun _ hw => ⟨congrArg (fun b => Ending.returned (Value.bool b)) (by unfold tkMay; rw [Bool.eq_iff_iff]; simp only [Bool.and_eq_true, decide_eq_true_eq, Bool.false_eq_true, false_iff, true_iff]; omega), hw.ch⟩
     )
   ·first
    | (exfalso; omega)
    | (
     refine jy (y_pick_true rfl rfl) ?_
     refine jz ?_
     refine jsk ?_
     refine jsk ?_
     refine jsk ?_
     refine jsk ?_
     refine jy (y_pick_false rfl rfl) ?_
     refine jz ?_
     refine jnt ?_
     refine jc_ret ?_
     refine jq_ret1 rfl rfl ?_
     exact fun _ hw => ⟨congrArg (fun b => Ending.returned (Value.bool b)) (by unfold tkMay; rw [Bool.eq_iff_iff]; simp only [Bool.and_eq_true, decide_eq_true_eq, Bool.false_eq_true, false_iff, true_iff]; omega), hw.ch⟩
     )
   )
 ·first
  | (exfalso; omega)
  | (
   refine jz ?_
   refine jsk ?_
   refine jsk ?_
   refine jsk ?_
   refine jsk ?_
   refine jy (y_pick_false rfl rfl) ?_
   refine jz ?_
   refine jsk ?_
   refine jsk ?_
   refine jsk ?_
   refine jsk ?_
   refine jy (y_pick_false rfl rfl) ?_
   refine jz ?_
   refine jnt ?_
   refine jc_ret ?_
   refine jq_ret1 rfl rfl ?_
   exact fun _ hw => ⟨congrArg (fun b => Ending.returned (Value.bool b)) (by unfold tkMay; rw [Bool.eq_iff_iff]; simp only [Bool.and_eq_true, decide_eq_true_eq, Bool.false_eq_true, false_iff, true_iff]; omega), hw.ch⟩
   )

theorem rright_any (p : Pf) (ad : Option Addr) (c : Nat) (w : World) (hE : ElAt w ad 10 (p.wins.map Wn.c)) (hl : p.wins.length ≤ 1000000000) :
  Calls Tryz.prog 62 #[.agg (Pf.c p ad c).toArray] w fun e w' => e = .returned (.bool (pfRight p)) ∧ Ch [] w w' := by
 refine calls_of (n := 51) (E := [(0, .agg (Pf.c p ad c).toArray)]) (W := Hp w [] []) Tryz.func62 rfl rfl (Nat.le_of_ble_eq_true rfl) rfl (Hp.nil _ _) ?_
 refine jsr ?_
 refine jl_m rfl (by decide) rfl (m_box rfl rfl) (fun b1 => ?_)
 refine jz ?_
 refine jnt ?_
 refine jc_seq ?_
 refine jsr ?_
 refine jz ?_
 refine jnt ?_
 refine jc_block ?_
 refine jc_loop (fun (i : Nat) => [(1, .pointer (some ⟨b1, 0, none⟩)), (3, .int .i64 (i : Nat))]) (fun (i : Nat) => fun w' => (i ≤ p.wins.length ∧ ∀ z ∈ p.wins.take i, wnMay z = true) ∧ Hp w [] [.cells b1 (Pf.c p ad c)] w') (fun (i : Nat) => p.wins.length - i) 0 ?_ ?_ ?_
 ·exact ⟨rfl, rfl, trivial⟩
 ·exact fun _ h => ⟨⟨by omega, by simp⟩, h⟩
 ·intro i
  refine jc_and (fun hi => ?_)
  refine jc_seq ?_
  refine jsr ?_
  refine jz ?_
  refine jz ?_
  refine jz ?_
  refine jy (y_len_slice rfl) ?_
  refine jy (y_lss rfl rfl) ?_
  refine jl_prop (fun h8 => ?_) (fun h8 => ?_)
  ·first
   | (exfalso; omega)
   | (
    have hlt : i < p.wins.length := by omega
    obtain ⟨bb, oo, ea, hold⟩ := hE.get hlt
    subst ea
    generalize hxe : p.wins[i]'hlt = x at *
    refine jnt ?_
    refine jc_true rfl ?_
    refine jc_skip ?_
    refine jq_then ?_
    refine jc_seq ?_
    refine jc_block ?_
    refine jsr ?_
    refine jz ?_
    refine jz ?_
    refine jz ?_
    refine jy (y_indexAddr_slice (off := oo + i * 10) rfl rfl (by omega) (by omega) (by omega)) ?_
    refine jz ?_
    refine jy (y_loadAgg_old rfl rfl (hold.take 8) (by simp)) ?_
    refine jpc (goes_func rfl) (fun w1 hw1 => rmay_any x.t w1) ?_
    refine jl_bool (fun h17 => ?_) (fun h17 => ?_)
    ·skip
     refine jz ?_
     refine jz ?_
     refine jz ?_
     refine jz ?_
     refine jz ?_
     refine jy (y_indexAddr_slice (off := oo + i * 10) rfl rfl (by omega) (by omega) (by omega)) ?_
     refine jz ?_
     refine jy (y_load_old rfl (hold 8 _ rfl) (by simp)) ?_
     refine jy (y_len_str rfl) ?_
     refine jy (y_gtr rfl rfl) ?_
     refine jl_prop (fun h27 => ?_) (fun h27 => ?_)
     ·first
      | (exfalso; omega)
      | (
       refine jy (y_pick_false rfl rfl) ?_
       refine jnt ?_
       refine jc_true rfl ?_
       refine jsr ?_
       refine jz ?_
       refine jnt ?_
       refine jc_ret ?_
       refine jq_block_ret ?_
       refine jq_then_ret ?_
       refine jq_then_ret ?_
       refine jq_block_ret ?_
       refine jq_then_ret ?_
       refine jq_ret1 rfl rfl ?_
       exact fun _ hw => ⟨congrArg (fun b => Ending.returned (Value.bool b)) (right_no hlt hxe (by first | exact wn_no1 (by assumption) | exact wn_no2 (by omega))), hw.ch⟩
       )
     ·first
      | (exfalso; omega)
      | (
       refine jy (y_pick_false rfl rfl) ?_
       refine jnt ?_
       refine jc_false rfl ?_
       refine jc_skip ?_
       refine jq_block ?_
       refine jq_then ?_
       refine jc_region ?_
       refine jz ?_
       refine jy (y_add_fits rfl rfl (by simp only [fits]; omega)) ?_
       refine jz ?_
       refine jl_nil ?_
       refine jq_round (i := i) (i + 1) ?_ ?_ ?_
       ·omega
       ·exact ⟨rfl, lk_int rfl (by omega), trivial⟩
       ·exact fun _ h => ⟨⟨by omega, all_take hlt hi.2 (by rw [hxe]; simp only [wnMay, Bool.and_eq_true, decide_eq_true_eq]; exact ⟨by assumption, by omega⟩)⟩, h⟩
       )
    ·skip
     refine jz ?_
     refine jz ?_
     refine jsk ?_
     refine jsk ?_
     refine jsk ?_
     refine jsk ?_
     refine jsk ?_
     refine jsk ?_
     refine jsk ?_
     refine jsk ?_
     refine jy (y_pick_true rfl rfl) ?_
     refine jnt ?_
     refine jc_true rfl ?_
     refine jsr ?_
     refine jz ?_
     refine jnt ?_
     refine jc_ret ?_
     refine jq_block_ret ?_
     refine jq_then_ret ?_
     refine jq_then_ret ?_
     refine jq_block_ret ?_
     refine jq_then_ret ?_
     refine jq_ret1 rfl rfl ?_
     exact fun _ hw => ⟨congrArg (fun b => Ending.returned (Value.bool b)) (right_no hlt hxe (by first | exact wn_no1 (by assumption) | exact wn_no2 (by omega))), hw.ch⟩
    )
  ·first
   | (exfalso; omega)
   | (
    refine jnt ?_
    refine jc_false rfl ?_
    refine jc_exit ?_
    refine jq_then_exit ?_
    refine jq_then_exit ?_
    refine jq_hit ?_
    refine jq_then ?_
    refine jsr ?_
    refine jz ?_
    refine jz ?_
    refine jy (y_len_str rfl) ?_
    refine jy (y_leq rfl rfl) ?_
    refine jl_prop (fun h32 => ?_) (fun h32 => ?_)
    ·first
     | (exfalso; omega)
     | (
      refine jz ?_
      refine jz ?_
      refine jz ?_
      refine jy (y_len_str rfl) ?_
      refine jy (y_eql rfl rfl) ?_
      refine jl_prop (fun h37 => ?_) (fun h37 => ?_)
      ·first
       | (exfalso; omega)
       | (
        refine jz ?_
        refine jsk ?_
        refine jsk ?_
        refine jsk ?_
        refine jsk ?_
        refine jy (y_pick_true rfl rfl) ?_
        refine jy (y_pick_true rfl rfl) ?_
        refine jz ?_
        refine jz ?_
        refine jz ?_
        refine jy (y_len_slice rfl) ?_
        refine jy (y_leq rfl rfl) ?_
        refine jy (y_pick_true rfl rfl) ?_
        refine jz ?_
        refine jnt ?_
        refine jc_ret ?_
        refine jq_ret1 rfl rfl ?_
        exact fun _ hw => ⟨congrArg (fun b => Ending.returned (Value.bool b)) (by rw [Bool.eq_iff_iff, pfRight_iff]; have hall : ∀ z ∈ p.wins, wnMay z = true := (by have h1 := hi.2; rwa [List.take_of_length_le (by omega)] at h1); first | exact ⟨fun h => (by have h3 := of_decide_eq_true h; exact ⟨hall, by omega, by omega, by omega⟩), fun h => decide_eq_true (by omega)⟩ | exact ⟨fun h => absurd h (by decide), fun h => (by obtain ⟨_, h2, h3, h4⟩ := h; omega)⟩), hw.ch⟩
        )
      ·first
       | (exfalso; omega)
       | (
        refine jz ?_
        refine jz ?_
        refine jz ?_
        refine jy (y_len_str rfl) ?_
        refine jy (y_eql rfl rfl) ?_
        refine jl_prop (fun h42 => ?_) (fun h42 => ?_)
        ·first
         | (exfalso; omega)
         | (
          refine jy (y_pick_false rfl rfl) ?_
          refine jy (y_pick_true rfl rfl) ?_
          refine jz ?_
          refine jz ?_
          refine jz ?_
          refine jy (y_len_slice rfl) ?_
          refine jy (y_leq rfl rfl) ?_
          refine jy (y_pick_true rfl rfl) ?_
          refine jz ?_
          refine jnt ?_
          refine jc_ret ?_
          refine jq_ret1 rfl rfl ?_
          exact fun _ hw => ⟨congrArg (fun b => Ending.returned (Value.bool b)) (by rw [Bool.eq_iff_iff, pfRight_iff]; have hall : ∀ z ∈ p.wins, wnMay z = true := (by have h1 := hi.2; rwa [List.take_of_length_le (by omega)] at h1); first | exact ⟨fun h => (by have h3 := of_decide_eq_true h; exact ⟨hall, by omega, by omega, by omega⟩), fun h => decide_eq_true (by omega)⟩ | exact ⟨fun h => absurd h (by decide), fun h => (by obtain ⟨_, h2, h3, h4⟩ := h; omega)⟩), hw.ch⟩
          )
        ·first
         | (exfalso; omega)
         | (
          refine jy (y_pick_false rfl rfl) ?_
          refine jy (y_pick_true rfl rfl) ?_
          refine jz ?_
          refine jsk ?_
          refine jsk ?_
          refine jsk ?_
          refine jsk ?_
          refine jy (y_pick_false rfl rfl) ?_
          refine jz ?_
          refine jnt ?_
          refine jc_ret ?_
          refine jq_ret1 rfl rfl ?_
          exact fun _ hw => ⟨congrArg (fun b => Ending.returned (Value.bool b)) (by rw [Bool.eq_iff_iff, pfRight_iff]; have hall : ∀ z ∈ p.wins, wnMay z = true := (by have h1 := hi.2; rwa [List.take_of_length_le (by omega)] at h1); first | exact ⟨fun h => (by have h3 := of_decide_eq_true h; exact ⟨hall, by omega, by omega, by omega⟩), fun h => decide_eq_true (by omega)⟩ | exact ⟨fun h => absurd h (by decide), fun h => (by obtain ⟨_, h2, h3, h4⟩ := h; omega)⟩), hw.ch⟩
          )
        )
      )
    ·first
     | (exfalso; omega)
     | (
      refine jz ?_
      refine jsk ?_
      refine jsk ?_
      refine jsk ?_
      refine jsk ?_
      refine jsk ?_
      refine jsk ?_
      refine jsk ?_
      refine jsk ?_
      refine jsk ?_
      refine jsk ?_
      refine jy (y_pick_false rfl rfl) ?_
      refine jz ?_
      refine jsk ?_
      refine jsk ?_
      refine jsk ?_
      refine jsk ?_
      refine jy (y_pick_false rfl rfl) ?_
      refine jz ?_
      refine jnt ?_
      refine jc_ret ?_
      refine jq_ret1 rfl rfl ?_
      exact fun _ hw => ⟨congrArg (fun b => Ending.returned (Value.bool b)) (by rw [Bool.eq_iff_iff, pfRight_iff]; have hall : ∀ z ∈ p.wins, wnMay z = true := (by have h1 := hi.2; rwa [List.take_of_length_le (by omega)] at h1); first | exact ⟨fun h => (by have h3 := of_decide_eq_true h; exact ⟨hall, by omega, by omega, by omega⟩), fun h => decide_eq_true (by omega)⟩ | exact ⟨fun h => absurd h (by decide), fun h => (by obtain ⟨_, h2, h3, h4⟩ := h; omega)⟩), hw.ch⟩
      )
    )

theorem rsame_any (p q : Pf) (ad aq : Option Addr) (c d : Nat) (w : World) (hE : ElAt w ad 10 (p.wins.map Wn.c)) (hQ : ElAt w aq 10 (q.wins.map Wn.c)) (hl : p.wins.length ≤ 1000000000) (hm : q.wins.length ≤ 1000000000) :
  Calls Tryz.prog 76 #[.agg (Pf.c p ad c).toArray, .agg (Pf.c q aq d).toArray] w fun e w' => e = .returned (.bool (pfSame p q)) ∧ Ch [] w w' := by
 refine calls_of (n := 50) (E := [(0, .agg (Pf.c p ad c).toArray), (1, .agg (Pf.c q aq d).toArray)]) (W := Hp w [] []) Tryz.func76 rfl rfl (Nat.le_of_ble_eq_true rfl) rfl (Hp.nil _ _) ?_
 refine jsr ?_
 refine jl_m rfl (by decide) rfl (m_box rfl rfl) (fun b2 => ?_)
 refine jl_m rfl (by decide) rfl (m_box rfl rfl) (fun b3 => ?_)
 refine jz ?_
 refine jnt ?_
 refine jc_seq ?_
 refine jsr ?_
 refine jz ?_
 refine jz ?_
 refine jy (y_len_slice rfl) ?_
 refine jz ?_
 refine jz ?_
 refine jy (y_len_slice rfl) ?_
 refine jy (y_neq rfl rfl) ?_
 refine jl_prop (fun h12 => ?_) (fun h12 => ?_)
 ·first
  | (exfalso; omega)
  | (
   refine jnt ?_
   refine jc_true rfl ?_
   refine jsr ?_
   refine jz ?_
   refine jnt ?_
   refine jc_ret ?_
   refine jq_then_ret ?_
   refine jq_ret1 rfl rfl ?_
   exact fun _ hw => ⟨congrArg (fun b => Ending.returned (Value.bool b)) (pf_ne (.inr (.inr (.inr (len_ne (by omega)))))), hw.ch⟩
   )
 ·first
  | (exfalso; omega)
  | (
   refine jnt ?_
   refine jc_false rfl ?_
   refine jc_skip ?_
   refine jq_then ?_
   refine jc_seq ?_
   refine jsr ?_
   refine jz ?_
   refine jnt ?_
   refine jc_block ?_
   refine jc_loop (fun (i : Nat) => [(2, .pointer (some ⟨b2, 0, none⟩)), (3, .pointer (some ⟨b3, 0, none⟩)), (5, .int .i64 (i : Nat))]) (fun (i : Nat) => fun w' => (i ≤ p.wins.length ∧ p.wins.take i = q.wins.take i) ∧ Hp w [] [.cells b3 (Pf.c q aq d), .cells b2 (Pf.c p ad c)] w') (fun (i : Nat) => p.wins.length - i) 0 ?_ ?_ ?_
   ·exact ⟨rfl, rfl, rfl, trivial⟩
   ·exact fun _ h => ⟨⟨by omega, rfl⟩, h⟩
   ·intro i
    refine jc_and (fun hi => ?_)
    refine jc_seq ?_
    refine jsr ?_
    refine jz ?_
    refine jz ?_
    refine jz ?_
    refine jy (y_len_slice rfl) ?_
    refine jy (y_lss rfl rfl) ?_
    refine jl_prop (fun h17 => ?_) (fun h17 => ?_)
    ·first
     | (exfalso; omega)
     | (
      have hlt : i < p.wins.length := by omega
      have hlq : i < q.wins.length := by omega
      obtain ⟨bb, oo, ea, hold⟩ := hE.get hlt
      obtain ⟨bq, oq, eq, holq⟩ := hQ.get hlq
      subst ea
      subst eq
      generalize hxe : p.wins[i]'hlt = x at *
      generalize hye : q.wins[i]'hlq = y at *
      refine jnt ?_
      refine jc_true rfl ?_
      refine jc_skip ?_
      refine jq_then ?_
      refine jc_seq ?_
      refine jc_block ?_
      refine jc_seq ?_
      refine jc_draw (by kernel_rfl) (fun _ h => h.drew) ?_
      refine juz ?_
      refine juz ?_
      refine juz ?_
      refine juy (y_indexAddr_slice (off := oo + i * 10) rfl rfl (by omega) (by omega) (by omega)) ?_
      refine juy (y_loadAgg_old rfl rfl hold (by simp)) ?_
      refine juz ?_
      refine juz ?_
      refine juz ?_
      refine juy (y_indexAddr_slice (off := oq + i * 10) rfl rfl (by omega) (by omega) (by omega)) ?_
      refine juy (y_loadAgg_old rfl rfl holq (by simp)) ?_
      refine juy (y_neq_agg rfl rfl (by kernel_rfl) (fun w => eq_rwn 9997 x y w)) ?_
      refine ju_bool (fun h30 => ?_) (fun h30 => ?_)
      ·skip
       refine ju_nil ?_
       refine jq_then ?_
       refine jc_true rfl ?_
       refine jsr ?_
       refine jz ?_
       refine jnt ?_
       refine jc_ret ?_
       refine jq_block_ret ?_
       refine jq_then_ret ?_
       refine jq_then_ret ?_
       refine jq_block_ret ?_
       refine jq_then_ret ?_
       refine jq_ret1 rfl rfl ?_
       exact fun _ hw => ⟨congrArg (fun b => Ending.returned (Value.bool b)) (pf_ne (.inr (.inr (.inr (get_ne hlt hlq hxe hye (by first | assumption | simp_all)))))), hw.ch⟩
      ·skip
       refine ju_nil ?_
       refine jq_then ?_
       refine jc_false rfl ?_
       refine jc_skip ?_
       refine jq_block ?_
       refine jq_then ?_
       refine jc_region ?_
       refine jz ?_
       refine jy (y_add_fits rfl rfl (by simp only [fits]; omega)) ?_
       refine jz ?_
       refine jl_nil ?_
       refine jq_round (i := i) (i + 1) ?_ ?_ ?_
       ·omega
       ·exact ⟨rfl, rfl, lk_int rfl (by omega), trivial⟩
       ·exact fun _ h => ⟨⟨by omega, take_both hlt hlq hi.2 (by rw [hxe, hye]; first | assumption | simp_all)⟩, h⟩
      )
    ·first
     | (exfalso; omega)
     | (
      refine jnt ?_
      refine jc_false rfl ?_
      refine jc_exit ?_
      refine jq_then_exit ?_
      refine jq_then_exit ?_
      refine jq_hit ?_
      refine jq_then ?_
      refine jsr ?_
      refine jz ?_
      refine jz ?_
      refine jz ?_
      refine jz ?_
      refine jy (y_eql rfl rfl) ?_
      refine jl_prop (fun h35 => ?_) (fun h35 => ?_)
      ·first
       | (exfalso; omega)
       | (
        refine jz ?_
        refine jz ?_
        refine jz ?_
        refine jz ?_
        refine jz ?_
        refine jy (y_seql rfl rfl) ?_
        refine jl_prop (fun h41 => ?_) (fun h41 => ?_)
        ·skip
         refine jy (y_pick_true rfl rfl) ?_
         refine jz ?_
         refine jz ?_
         refine jz ?_
         refine jz ?_
         refine jz ?_
         refine jy (y_seql rfl rfl) ?_
         refine jy (y_pick_true rfl rfl) ?_
         refine jz ?_
         refine jnt ?_
         refine jc_ret ?_
         refine jq_ret1 rfl rfl ?_
         exact fun _ hw => ⟨congrArg (fun b => Ending.returned (Value.bool b)) (by have h1 := hi.2; rw [List.take_of_length_le (by omega), List.take_of_length_le (by omega)] at h1; first | exact pf_ne (.inl (by assumption)) | exact pf_ne (.inr (.inl (by assumption))) | (rw [Bool.eq_iff_iff]; simp only [pfSame, decide_eq_true_eq]; exact ⟨fun h => of_decide_eq_true (pf_eq (by assumption) (by assumption) h h1).symm, fun h => by rw [h]⟩)), hw.ch⟩
        ·skip
         refine jy (y_pick_true rfl rfl) ?_
         refine jz ?_
         refine jsk ?_
         refine jsk ?_
         refine jsk ?_
         refine jsk ?_
         refine jsk ?_
         refine jy (y_pick_false rfl rfl) ?_
         refine jz ?_
         refine jnt ?_
         refine jc_ret ?_
         refine jq_ret1 rfl rfl ?_
         exact fun _ hw => ⟨congrArg (fun b => Ending.returned (Value.bool b)) (by have h1 := hi.2; rw [List.take_of_length_le (by omega), List.take_of_length_le (by omega)] at h1; first | exact pf_ne (.inl (by assumption)) | exact pf_ne (.inr (.inl (by assumption))) | (rw [Bool.eq_iff_iff]; simp only [pfSame, decide_eq_true_eq]; exact ⟨fun h => of_decide_eq_true (pf_eq (by assumption) (by assumption) h h1).symm, fun h => by rw [h]⟩)), hw.ch⟩
        )
      ·first
       | (exfalso; omega)
       | (
        refine jz ?_
        refine jsk ?_
        refine jsk ?_
        refine jsk ?_
        refine jsk ?_
        refine jsk ?_
        refine jy (y_pick_false rfl rfl) ?_
        refine jz ?_
        refine jsk ?_
        refine jsk ?_
        refine jsk ?_
        refine jsk ?_
        refine jsk ?_
        refine jy (y_pick_false rfl rfl) ?_
        refine jz ?_
        refine jnt ?_
        refine jc_ret ?_
        refine jq_ret1 rfl rfl ?_
        exact fun _ hw => ⟨congrArg (fun b => Ending.returned (Value.bool b)) (by have h1 := hi.2; rw [List.take_of_length_le (by omega), List.take_of_length_le (by omega)] at h1; first | exact pf_ne (.inl (by assumption)) | exact pf_ne (.inr (.inl (by assumption))) | (rw [Bool.eq_iff_iff]; simp only [pfSame, decide_eq_true_eq]; exact ⟨fun h => of_decide_eq_true (pf_eq (by assumption) (by assumption) h h1).symm, fun h => by rw [h]⟩)), hw.ch⟩
        )
      )
   )

end Go.Proofs.YtomhcibbalhgkaaGreat

namespace Go.Proofs.YtomhcibbalhgkaaGreat
open Go.RowKit
set_option maxRecDepth 100000
set_option maxHeartbeats 4000000
set_option linter.unusedVariables false
set_option linter.unusedSimpArgs false
attribute [local irreducible] Yields Makes Writes
theorem take_flat0 {α : Type} {c : α → List Value} {l : List α} {i : Nat} (h : i < l.length) : (l.take (i + 1)).flatMap c = (l.take i).flatMap c ++ c l[i] := by
  rw [List.take_succ_eq_append_getElem h, List.flatMap_append]
  simp
theorem fits_key {o : Oup} (h : o.amount ≤ 0 ∨ o.key.size ≠ 16) : ouFits o = false := by
  rw [Bool.eq_false_iff]
  intro h2
  obtain ⟨a, b, _⟩ := ouFits_iff.1 h2
  omega
theorem fits_gate {o : Oup} (h : o.kind ≠ 1) (hg : ¬ (o.gate.size = 16 ∧ 1 ≤ o.expiry ∧ o.expiry ≤ 4294967295)) : ouFits o = false := by
  rw [Bool.eq_false_iff]
  intro h2
  obtain ⟨_, _, c, _⟩ := ouFits_iff.1 h2
  rcases c with c | ⟨_, c, _⟩ | ⟨_, c, _⟩
  · exact h c
  · exact hg c
  · exact hg c
theorem fits_1 {o : Oup} (h : o.kind = 1) (ha : 0 < o.amount) (hk : o.key.size = 16) : ouFits o = decide (o = ⟨1, o.amount, o.key, ⟨#[]⟩, 0, ⟨#[]⟩, 0, 0, ⟨#[]⟩⟩) := by
  rw [Bool.eq_iff_iff, ouFits_iff, decide_eq_true_eq]
  have e : ouBare o = ⟨1, o.amount, o.key, ⟨#[]⟩, 0, ⟨#[]⟩, 0, 0, ⟨#[]⟩⟩ := by unfold ouBare; rw [if_neg (by omega), if_neg (by omega), h]
  rw [← e]
  exact ⟨fun h2 => h2.2.2.2, fun h2 => ⟨ha, hk, .inl h, h2⟩⟩
theorem fits_2 {o : Oup} (h : o.kind = 2) (ha : 0 < o.amount) (hk : o.key.size = 16) (hg : o.gate.size = 16 ∧ 1 ≤ o.expiry ∧ o.expiry ≤ 4294967295) : ouFits o = decide (o.anchor.size = 16 ∧ 0 ≤ o.tokens ∧ o.tokens ≤ 4096 ∧ o.of = ⟨#[]⟩) := by
  rw [Bool.eq_iff_iff, ouFits_iff, decide_eq_true_eq]
  have e : ouBare o = ⟨o.kind, o.amount, o.key, o.gate, o.expiry, o.anchor, o.unit, o.tokens, ⟨#[]⟩⟩ := by unfold ouBare; rw [if_pos h]
  rw [e]
  constructor
  · rintro ⟨_, _, c, d⟩
    have hof : o.of = ⟨#[]⟩ := congrArg Oup.of d
    rcases c with c | ⟨_, _, c⟩ | ⟨c, _⟩
    · omega
    · exact ⟨c.1, c.2.1, c.2.2, hof⟩
    · omega
  · rintro ⟨a, b, c, d⟩
    refine ⟨ha, hk, .inr (.inl ⟨h, hg, a, b, c⟩), ?_⟩
    cases o
    simp_all
theorem fits_3 {o : Oup} (h1 : o.kind ≠ 1) (h2 : o.kind ≠ 2) (ha : 0 < o.amount) (hk : o.key.size = 16) (hg : o.gate.size = 16 ∧ 1 ≤ o.expiry ∧ o.expiry ≤ 4294967295) : ouFits o = decide (o.kind = 3 ∧ o.of.size = 16 ∧ o.anchor = ⟨#[]⟩ ∧ o.unit = 0 ∧ o.tokens = 0) := by
  rw [Bool.eq_iff_iff, ouFits_iff, decide_eq_true_eq]
  constructor
  · rintro ⟨_, _, c, d⟩
    rcases c with c | ⟨c, _⟩ | ⟨c, _, c2⟩
    · exact absurd c h1
    · exact absurd c h2
    · have e : ouBare o = ⟨o.kind, o.amount, o.key, o.gate, o.expiry, ⟨#[]⟩, 0, 0, o.of⟩ := by unfold ouBare; rw [if_neg h2, if_pos c]
      rw [e] at d
      exact ⟨c, c2, congrArg Oup.anchor d, congrArg Oup.unit d, congrArg Oup.tokens d⟩
  · rintro ⟨a, b, c, d, f⟩
    refine ⟨ha, hk, .inr (.inr ⟨a, hg, b⟩), ?_⟩
    have e : ouBare o = ⟨o.kind, o.amount, o.key, o.gate, o.expiry, ⟨#[]⟩, 0, 0, o.of⟩ := by unfold ouBare; rw [if_neg h2, if_pos a]
    rw [e]
    cases o
    simp_all

theorem eq_rou (m : Nat) (x y : Oup) (w : World) : (Op.equalIn (m + 2) 58 (.agg (Oup.c x).toArray) (.agg (Oup.c y).toArray)).run Tryz.prog w = .ok (decide (x = y)) w := by
  rw [run_equalIn_agg _ _ 58 _ _ (by kernel_rfl) (by kernel_rfl), show (Program.fieldsOf Tryz.prog 58).toList = [((fsOf (Tryz.prog.underlying 58)).getD 0 default), ((fsOf (Tryz.prog.underlying 58)).getD 1 default), ((fsOf (Tryz.prog.underlying 58)).getD 2 default), ((fsOf (Tryz.prog.underlying 58)).getD 3 default), ((fsOf (Tryz.prog.underlying 58)).getD 4 default), ((fsOf (Tryz.prog.underlying 58)).getD 5 default), ((fsOf (Tryz.prog.underlying 58)).getD 6 default), ((fsOf (Tryz.prog.underlying 58)).getD 7 default), ((fsOf (Tryz.prog.underlying 58)).getD 8 default)] from by kernel_rfl]
  refine Eq.trans (eqF_cell (by kernel_rfl) (T := 3) (by kernel_rfl) (off := 0) (by kernel_rfl) rfl rfl (equalIn_int (m) _ _ w) (eqF_cell (by kernel_rfl) (T := 48) (by kernel_rfl) (off := 1) (by kernel_rfl) rfl rfl (equalIn_int (m) _ _ w) (eqF_cell (by kernel_rfl) (T := 9) (by kernel_rfl) (off := 2) (by kernel_rfl) rfl rfl (equalIn_str (m) _ _ w) (eqF_cell (by kernel_rfl) (T := 9) (by kernel_rfl) (off := 3) (by kernel_rfl) rfl rfl (equalIn_str (m) _ _ w) (eqF_cell (by kernel_rfl) (T := 3) (by kernel_rfl) (off := 4) (by kernel_rfl) rfl rfl (equalIn_int (m) _ _ w) (eqF_cell (by kernel_rfl) (T := 9) (by kernel_rfl) (off := 5) (by kernel_rfl) rfl rfl (equalIn_str (m) _ _ w) (eqF_cell (by kernel_rfl) (T := 48) (by kernel_rfl) (off := 6) (by kernel_rfl) rfl rfl (equalIn_int (m) _ _ w) (eqF_cell (by kernel_rfl) (T := 3) (by kernel_rfl) (off := 7) (by kernel_rfl) rfl rfl (equalIn_int (m) _ _ w) (eqF_cell (by kernel_rfl) (T := 9) (by kernel_rfl) (off := 8) (by kernel_rfl) rfl rfl (equalIn_str (m) _ _ w) eqF_nil))))))))) ?_
  congr 1
  rw [Bool.eq_iff_iff]
  cases x; cases y
  simp
theorem reftk_any (t : Tk) (w : World) :
  Calls Tryz.prog 109 #[.agg (Tk.c t).toArray] w fun e w' => e = .returned (.agg (Tk.c t).toArray) ∧ Ch [] w w' := by
 refine calls_of (n := 20) (E := [(0, .agg (Tk.c t).toArray)]) (W := Hp w [] []) Tryz.func109 rfl rfl (Nat.le_of_ble_eq_true rfl) rfl (Hp.nil _ _) ?_
 refine jsr ?_
 refine jl_m rfl (by decide) rfl (m_box rfl rfl) (fun b1 => ?_)
 refine jl_m rfl (by decide) rfl (m_alloc) (fun b2 => ?_)
 refine jnt ?_
 refine jsr ?_
 refine jz ?_
 refine jz ?_
 refine jz ?_
 refine jz ?_
 refine jz ?_
 refine jz ?_
 refine jz ?_
 refine jz ?_
 refine jz ?_
 refine jz ?_
 refine jz ?_
 refine jz ?_
 refine jz ?_
 refine jz ?_
 refine jz ?_
 refine jz ?_
 refine jy (y_build (Built.cell rfl rfl rfl (by repeat constructor) (Built.cell rfl rfl rfl (by repeat constructor) (Built.cell rfl rfl rfl (by repeat constructor) (Built.cell rfl rfl rfl (by repeat constructor) (Built.cell rfl rfl rfl (by repeat constructor) (Built.cell rfl rfl rfl (by repeat constructor) (Built.cell rfl rfl rfl (by repeat constructor) (Built.cell rfl rfl rfl (by repeat constructor) Built.nil))))))))) ?_
 refine jst ?_
 refine jnt ?_
 refine jc_ret ?_
 refine jq_res (.inl rfl) rfl (.cell rfl (by first | exact ld_agg (by first | exact mem0 | exact mem1 | exact mem2 | exact mem3 | exact mem4 | exact mem5) (by repeat constructor) | exact ld_agg (by first | exact mem0 | exact mem1 | exact mem2 | exact mem3 | exact mem4 | exact mem5) (by assumption)) .nil) ?_
 exact fun _ hw => ⟨rfl, hw.ch⟩

theorem refwn_any (x : Wn) (w : World) :
  Calls Tryz.prog 92 #[.agg (Wn.c x).toArray] w fun e w' => e = .returned (.agg (Wn.c x).toArray) ∧ Ch [] w w' := by
 refine calls_of (n := 11) (E := [(0, .agg (Wn.c x).toArray)]) (W := Hp w [] []) Tryz.func92 rfl rfl (Nat.le_of_ble_eq_true rfl) rfl (Hp.nil _ _) ?_
 refine jsr ?_
 refine jl_m rfl (by decide) rfl (m_box rfl rfl) (fun b1 => ?_)
 refine jl_m rfl (by decide) rfl (m_alloc) (fun b2 => ?_)
 refine jnt ?_
 refine jc_seq ?_
 refine jc_tail 8 (by kernel_rfl) (fun _ h => h.drew) ?_
 simp only [List.take_succ_cons, List.take_zero, List.drop_succ_cons, List.drop_zero]
 refine jtz ?_
 refine jtz ?_
 refine jt_call rfl (by decide) rfl (goes_func rfl) (fun w1 hw1 => pcall hw1 (reftk_any x.t w1)) ?_
 refine jtz ?_
 refine jtz ?_
 refine jtz ?_
 refine jtz ?_
 refine jty (y_build (Built.agg rfl rfl rfl (by repeat constructor) (Built.cell rfl rfl rfl (by repeat constructor) (Built.cell rfl rfl rfl (by repeat constructor) Built.nil)))) ?_
 refine jt_nil ?_
 refine jst ?_
 refine jnt ?_
 refine jc_ret ?_
 refine jq_res (.inl rfl) rfl (.cell rfl (by first | exact ld_agg (by first | exact mem0 | exact mem1 | exact mem2 | exact mem3 | exact mem4 | exact mem5) (by repeat constructor) | exact ld_agg (by first | exact mem0 | exact mem1 | exact mem2 | exact mem3 | exact mem4 | exact mem5) (by assumption)) .nil) ?_
 exact fun _ hw => ⟨rfl, hw.ch⟩

theorem refou_any (o : Oup) (w : World) :
  Calls Tryz.prog 21 #[.agg (Oup.c o).toArray] w fun e w' => e = .returned (.agg (Oup.c o).toArray) ∧ Ch [] w w' := by
 refine calls_of (n := 22) (E := [(0, .agg (Oup.c o).toArray)]) (W := Hp w [] []) Tryz.func21 rfl rfl (Nat.le_of_ble_eq_true rfl) rfl (Hp.nil _ _) ?_
 refine jsr ?_
 refine jl_m rfl (by decide) rfl (m_box rfl rfl) (fun b1 => ?_)
 refine jl_m rfl (by decide) rfl (m_alloc) (fun b2 => ?_)
 refine jnt ?_
 refine jsr ?_
 refine jz ?_
 refine jz ?_
 refine jz ?_
 refine jz ?_
 refine jz ?_
 refine jz ?_
 refine jz ?_
 refine jz ?_
 refine jz ?_
 refine jz ?_
 refine jz ?_
 refine jz ?_
 refine jz ?_
 refine jz ?_
 refine jz ?_
 refine jz ?_
 refine jz ?_
 refine jz ?_
 refine jy (y_build (Built.cell rfl rfl rfl (by repeat constructor) (Built.cell rfl rfl rfl (by repeat constructor) (Built.cell rfl rfl rfl (by repeat constructor) (Built.cell rfl rfl rfl (by repeat constructor) (Built.cell rfl rfl rfl (by repeat constructor) (Built.cell rfl rfl rfl (by repeat constructor) (Built.cell rfl rfl rfl (by repeat constructor) (Built.cell rfl rfl rfl (by repeat constructor) (Built.cell rfl rfl rfl (by repeat constructor) Built.nil)))))))))) ?_
 refine jst ?_
 refine jnt ?_
 refine jc_ret ?_
 refine jq_res (.inl rfl) rfl (.cell rfl (by first | exact ld_agg (by first | exact mem0 | exact mem1 | exact mem2 | exact mem3 | exact mem4 | exact mem5) (by repeat constructor) | exact ld_agg (by first | exact mem0 | exact mem1 | exact mem2 | exact mem3 | exact mem4 | exact mem5) (by assumption)) .nil) ?_
 exact fun _ hw => ⟨rfl, hw.ch⟩

theorem refpf_any (p : Pf) (ad : Option Addr) (c : Nat) (w : World) (hE : ElAt w ad 10 (p.wins.map Wn.c)) (hl : p.wins.length ≤ 1000000) :
  Calls Tryz.prog 63 #[.agg (Pf.c p ad c).toArray] w fun e w' => ∃ pr : Option Addr × Nat, e = .returned (.agg (Pf.c p pr.1 pr.2).toArray) ∧ Fresh w w' (.row pr.1 p.wins.length pr.2 142 10 (p.wins.flatMap Wn.c)) := by
 refine calls_of (n := 31) (E := [(0, .agg (Pf.c p ad c).toArray)]) (W := Hp w [] []) Tryz.func63 rfl rfl (Nat.le_of_ble_eq_true rfl) rfl (Hp.nil _ _) ?_
 refine jsr ?_
 refine jl_m rfl (by decide) rfl (m_box rfl rfl) (fun b1 => ?_)
 refine jl_m rfl (by decide) rfl (m_alloc) (fun b2 => ?_)
 refine jnt ?_
 refine jsr ?_
 refine jz ?_
 refine jz ?_
 refine jz ?_
 refine jz ?_
 refine jz ?_
 refine jz ?_
 refine jy (y_build (Built.cell rfl rfl rfl (by repeat constructor) (Built.cell rfl rfl rfl (by repeat constructor) (Built.cell rfl rfl rfl (by repeat constructor) Built.nil)))) ?_
 refine jl_m rfl (by decide) rfl (m_alloc) (fun b3 => ?_)
 refine jst ?_
 refine jnt ?_
 refine jc_seq ?_
 refine jsr ?_
 refine jz ?_
 refine jnt ?_
 refine jc_block ?_
 refine jc_loop3 (fun (i : Nat) (au : Option Addr) (cu : Nat) => [(1, .pointer (some ⟨b1, 0, none⟩)), (2, .pointer (some ⟨b2, 0, none⟩)), (3, .pointer (some ⟨b3, 0, none⟩)), (4, .int .i64 (i : Nat))]) (fun (i : Nat) (au : Option Addr) (cu : Nat) => fun w' => i ≤ p.wins.length ∧ Hp w [] [.row au (i) cu 142 10 ((p.wins.take (i)).flatMap Wn.c), .cells b3 [.int .u64 p.amount, .string p.sig, .string p.token, .slice au (i) cu], .cells b2 [.int .u64 0, .string ⟨#[]⟩, .string ⟨#[]⟩, .slice none 0 0], .cells b1 (Pf.c p ad c)] w') (fun (i : Nat) (au : Option Addr) (cu : Nat) => p.wins.length - i) 0 none 0 ?_ ?_ ?_
 ·exact ⟨rfl, rfl, rfl, rfl, trivial⟩
 ·exact fun _ h => ⟨by omega, h.nilrow 142 10⟩
 ·intro i au cu
  refine jc_and (fun hi => ?_)
  refine jc_seq ?_
  refine jsr ?_
  refine jz ?_
  refine jz ?_
  refine jz ?_
  refine jy (y_len_slice rfl) ?_
  refine jy (y_lss rfl rfl) ?_
  refine jl_prop (fun h16 => ?_) (fun h16 => ?_)
  ·first
   | (exfalso; omega)
   | (
    have hlt : i < p.wins.length := by omega
    have hnx := take_flat0 (c := Wn.c) hlt
    obtain ⟨bb, oo, ea, hold⟩ := hE.get hlt
    subst ea
    generalize hxe : p.wins[i]'hlt = x at *
    refine jnt ?_
    refine jc_true rfl ?_
    refine jc_skip ?_
    refine jq_then ?_
    refine jc_seq ?_
    refine jc_block ?_
    refine jc_schedC (Hp w [] [.cells b3 [.int .u64 p.amount, .string p.sig, .string p.token, .slice au (i) cu], .cells b1 (Pf.c p (some ⟨bb, oo, none⟩) c)]) 9 [(0, true), (1, true), (2, true), (3, true), (4, true), (5, true), (6, true), (7, false), (8, false)] rfl (by kernel_rfl) (fun _ _ _ _ h => h) (fun _ h => (h.part (.cons (by first | exact del0 | exact del1 | exact del2) (.cons (by first | exact del0 | exact del1 | exact del2 | exact del3) .nil))).drew) (fun _ h => h.drew) ?_
    simp only [pickO, nthO, List.drop_succ_cons, List.drop_zero]
    refine jkz ?_
    refine jkz ?_
    refine jkz ?_
    refine jkz ?_
    refine jkz ?_
    refine jky (y_indexAddr_slice (off := oo + i * 10) rfl rfl (by omega) (by omega) (by omega)) ?_
    refine jky (y_loadAgg_old rfl rfl hold (by simp)) ?_
    refine js_pcall (by intro _ h; exact h.part (.cons (by first | exact del0 | exact del1 | exact del2) (.cons (by first | exact del0 | exact del1 | exact del2 | exact del3) .nil))) rfl (by decide) rfl (goes_func rfl) (fun w1 hw1 => pcall hw1 (refwn_any x w1)) ?_
    refine js_m (by intros; rename_i h; exact h.part (.cons (by first | exact del0 | exact del1 | exact del2) (.cons (by first | exact del0 | exact del1 | exact del2 | exact del3) .nil))) rfl (by decide) rfl (m_buildSlice (size := 10) (by decide) (Built.agg rfl rfl rfl (by repeat constructor) Built.nil)) (fun b27 => ?_)
    refine js_nil ?_
    refine jl_m2 rfl (by decide) rfl (m_append rfl rfl (by first | exact del0 | exact del1 | exact del2 | exact del3 | exact del4) (by first | exact del0 | exact del1 | exact del2 | exact del3 | exact del4) rfl (by omega) (by omega)) (fun a28 c28 => ?_)
    refine jz ?_
    refine jst ?_
    refine jl_nil ?_
    refine jq_block ?_
    refine jq_then ?_
    refine jc_region ?_
    refine jz ?_
    refine jy (y_add_fits rfl rfl (by simp only [fits]; omega)) ?_
    refine jz ?_
    refine jl_nil ?_
    refine jq_round3 (i := i) (j := au) (l := cu) (i + 1) a28 c28 ?_ ?_ ?_
    ·omega
    ·exact ⟨rfl, rfl, rfl, lk_int rfl (by omega), trivial⟩
    ·exact fun _ h => ⟨by omega, h.cast (by rw [hnx]; rfl)⟩
    )
  ·first
   | (exfalso; omega)
   | (
    refine jnt ?_
    refine jc_false rfl ?_
    refine jc_exit ?_
    refine jq_then_exit ?_
    refine jq_then_exit ?_
    refine jq_hit ?_
    refine jq_then ?_
    refine jsr ?_
    refine jz ?_
    refine jst ?_
    refine jnt ?_
    refine jc_ret ?_
    refine jq_res (.inl rfl) rfl (.cell rfl (by first | exact ld_agg (by first | exact mem0 | exact mem1 | exact mem2 | exact mem3 | exact mem4 | exact mem5) (by repeat constructor) | exact ld_agg (by first | exact mem0 | exact mem1 | exact mem2 | exact mem3 | exact mem4 | exact mem5) (by assumption)) .nil) ?_
    exact fun _ hw => (by have hie : i = p.wins.length := (by omega); subst hie; exact ⟨(au, cu), rfl, by have h2 := hw.part (F := [.row au (p.wins.length) cu 142 10 ((p.wins.take (p.wins.length)).flatMap Wn.c)]) (.cons del0 .nil); rw [List.take_length] at h2; exact h2.fresh⟩)
    )

theorem reftx_any (t : Trx) (a1 : Option Addr) (c1 : Nat) (a2 : Option Addr) (c2 : Nat) (a3 : Option Addr) (c3 : Nat) (w : World) (h1 : ElAt w a1 4 (t.ins.map Inp.c)) (h2 : ElAt w a2 9 (t.outs.map Oup.c)) (h3 : ElAt w a3 10 (t.pf.wins.map Wn.c)) (l1 : t.ins.length ≤ 1000000) (l2 : t.outs.length ≤ 1000000) (l3 : t.pf.wins.length ≤ 1000000) :
  Calls Tryz.prog 26 #[.agg (Trx.c t a1 c1 a2 c2 a3 c3).toArray] w fun e w' => ∃ pr : (Option Addr × Nat) × (Option Addr × Nat) × (Option Addr × Nat), e = .returned (.agg (Trx.c t pr.1.1 pr.1.2 pr.2.1.1 pr.2.1.2 pr.2.2.1 pr.2.2.2).toArray) ∧ Hp w [] [.row pr.1.1 (t).ins.length pr.1.2 104 4 ((t).ins.flatMap Inp.c), .row pr.2.1.1 (t).outs.length pr.2.1.2 58 9 ((t).outs.flatMap Oup.c), .row pr.2.2.1 (t).pf.wins.length pr.2.2.2 142 10 ((t).pf.wins.flatMap Wn.c)] w' := by
 refine calls_of (n := 60) (E := [(0, .agg (Trx.c t a1 c1 a2 c2 a3 c3).toArray)]) (W := Hp w [] []) Tryz.func26 rfl rfl (Nat.le_of_ble_eq_true rfl) rfl (Hp.nil _ _) ?_
 refine jsr ?_
 refine jl_m rfl (by decide) rfl (m_box rfl rfl) (fun b1 => ?_)
 refine jl_m rfl (by decide) rfl (m_alloc) (fun b2 => ?_)
 refine jnt ?_
 refine jsr ?_
 refine jz ?_
 refine jz ?_
 refine jl_fcall rfl (by decide) rfl (goes_func rfl) (fun w1 hw1 => refpf_any t.pf a3 c3 w1 (h3.keep hw1) l3) (fun pq => ?_)
 refine jy (y_build (Built.agg rfl rfl rfl (by repeat constructor) Built.nil)) ?_
 refine jl_m rfl (by decide) rfl (m_alloc) (fun b3 => ?_)
 refine jst ?_
 refine jnt ?_
 refine jc_seq ?_
 refine jsr ?_
 refine jz ?_
 refine jnt ?_
 refine jc_block ?_
 refine jc_loop3 (fun (i : Nat) (au : Option Addr) (cu : Nat) => [(1, .pointer (some ⟨b1, 0, none⟩)), (2, .pointer (some ⟨b2, 0, none⟩)), (3, .pointer (some ⟨b3, 0, none⟩)), (4, .int .i64 (i : Nat))]) (fun (i : Nat) (au : Option Addr) (cu : Nat) => fun w' => i ≤ t.ins.length ∧ Hp w [] [.row au (i) cu 104 4 ((t.ins.take (i)).flatMap Inp.c), .cells b3 [.slice au (i) cu, .slice none (0) 0, .int .u64 t.pf.amount, .string t.pf.sig, .string t.pf.token, .slice pq.1 t.pf.wins.length pq.2], .row pq.1 t.pf.wins.length pq.2 142 10 (t.pf.wins.flatMap Wn.c), .cells b2 [.slice none (0) 0, .slice none (0) 0, .int .u64 0, .string ⟨#[]⟩, .string ⟨#[]⟩, .slice none 0 0], .cells b1 (Trx.c t a1 c1 a2 c2 a3 c3)] w') (fun (i : Nat) (au : Option Addr) (cu : Nat) => t.ins.length - i) 0 none 0 ?_ ?_ ?_
 ·exact ⟨rfl, rfl, rfl, rfl, trivial⟩
 ·exact fun _ h => ⟨by omega, h.nilrow 104 4⟩
 ·intro i au cu
  refine jc_and (fun hi => ?_)
  refine jc_seq ?_
  refine jsr ?_
  refine jz ?_
  refine jz ?_
  refine jz ?_
  refine jy (y_len_slice rfl) ?_
  refine jy (y_lss rfl rfl) ?_
  refine jl_prop (fun h14 => ?_) (fun h14 => ?_)
  ·first
   | (exfalso; omega)
   | (
    have hlt : i < t.ins.length := by omega
    have hnx := take_flat0 (c := Inp.c) hlt
    obtain ⟨bb, oo, ea, hold⟩ := h1.get hlt
    subst ea
    generalize hxe : t.ins[i]'hlt = x at *
    refine jnt ?_
    refine jc_true rfl ?_
    refine jc_skip ?_
    refine jq_then ?_
    refine jc_seq ?_
    refine jc_block ?_
    refine jc_schedC (Hp w [] [.cells b3 [.slice au (i) cu, .slice none (0) 0, .int .u64 t.pf.amount, .string t.pf.sig, .string t.pf.token, .slice pq.1 t.pf.wins.length pq.2], .cells b1 (Trx.c t (some ⟨bb, oo, none⟩) c1 a2 c2 a3 c3)]) 22 [(0, true), (1, true), (2, true), (3, true), (4, true), (5, true), (6, true), (7, true), (8, true), (9, true), (10, true), (11, true), (12, true), (13, true), (14, true), (15, true), (16, true), (17, true), (18, true), (19, true), (20, true), (21, false)] rfl (by kernel_rfl) (fun _ _ _ _ h => h) (fun _ h => (h.part (.cons (by first | exact del0 | exact del1 | exact del2 | exact del3) (.cons (by first | exact del3 | exact del4 | exact .tail del4 | exact .tail (.tail del4)) .nil))).drew) (fun _ h => h.drew) ?_
    simp only [pickO, nthO, List.drop_succ_cons, List.drop_zero]
    refine jkz ?_
    refine jkz ?_
    refine jkz ?_
    refine jkz ?_
    refine jkz ?_
    refine jky (y_indexAddr_slice (off := oo + i * 4) rfl rfl (by omega) (by omega) (by omega)) ?_
    refine jkz ?_
    refine jky (y_loadAgg_old rfl rfl (hold.take 2) (by simp)) ?_
    refine jkz ?_
    refine jkz ?_
    refine jkz ?_
    refine jky (y_indexAddr_slice (off := oo + i * 4) rfl rfl (by omega) (by omega) (by omega)) ?_
    refine jkz ?_
    refine jky (y_load_old rfl (hold 2 _ rfl) (by simp)) ?_
    refine jkz ?_
    refine jkz ?_
    refine jkz ?_
    refine jky (y_indexAddr_slice (off := oo + i * 4) rfl rfl (by omega) (by omega) (by omega)) ?_
    refine jkz ?_
    refine jky (y_load_old rfl (hold 3 _ rfl) (by simp)) ?_
    refine jky (y_build (Built.agg rfl rfl rfl (by repeat constructor) (Built.cell rfl rfl rfl (by repeat constructor) (Built.cell rfl rfl rfl (by repeat constructor) Built.nil)))) ?_
    refine js_m (by intros; rename_i h; exact h.part (.cons (by first | exact del0 | exact del1 | exact del2 | exact del3) (.cons (by first | exact del3 | exact del4 | exact .tail del4 | exact .tail (.tail del4)) .nil))) rfl (by decide) rfl (m_buildSlice (size := 4) (by decide) (Built.agg rfl rfl rfl (by repeat constructor) Built.nil)) (fun b38 => ?_)
    refine js_nil ?_
    refine jl_m2 rfl (by decide) rfl (m_append rfl rfl (by first | exact del0 | exact del1 | exact del2 | exact del3 | exact del4) (by first | exact del0 | exact del1 | exact del2 | exact del3 | exact del4) rfl (by omega) (by omega)) (fun a39 c39 => ?_)
    refine jz ?_
    refine jst ?_
    refine jl_nil ?_
    refine jq_block ?_
    refine jq_then ?_
    refine jc_region ?_
    refine jz ?_
    refine jy (y_add_fits rfl rfl (by simp only [fits]; omega)) ?_
    refine jz ?_
    refine jl_nil ?_
    refine jq_round3 (i := i) (j := au) (l := cu) (i + 1) a39 c39 ?_ ?_ ?_
    ·omega
    ·exact ⟨rfl, rfl, rfl, lk_int rfl (by omega), trivial⟩
    ·exact fun _ h => ⟨by omega, h.cast (by rw [hnx]; rfl)⟩
    )
  ·first
   | (exfalso; omega)
   | (
    refine jnt ?_
    refine jc_false rfl ?_
    refine jc_exit ?_
    refine jq_then_exit ?_
    refine jq_then_exit ?_
    refine jq_hit ?_
    refine jq_then ?_
    refine jc_seq ?_
    refine jsr ?_
    refine jz ?_
    refine jnt ?_
    refine jc_block ?_
    refine jc_loop3 (fun (j : Nat) (av : Option Addr) (cv : Nat) => [(1, .pointer (some ⟨b1, 0, none⟩)), (2, .pointer (some ⟨b2, 0, none⟩)), (3, .pointer (some ⟨b3, 0, none⟩)), (5, .int .i64 (j : Nat))]) (fun (j : Nat) (av : Option Addr) (cv : Nat) => fun w' => j ≤ t.outs.length ∧ Hp w [] [.row av (j) cv 58 9 ((t.outs.take (j)).flatMap Oup.c), .row au (i) cu 104 4 ((t.ins.take (i)).flatMap Inp.c), .cells b3 [.slice au (i) cu, .slice av (j) cv, .int .u64 t.pf.amount, .string t.pf.sig, .string t.pf.token, .slice pq.1 t.pf.wins.length pq.2], .row pq.1 t.pf.wins.length pq.2 142 10 (t.pf.wins.flatMap Wn.c), .cells b2 [.slice none (0) 0, .slice none (0) 0, .int .u64 0, .string ⟨#[]⟩, .string ⟨#[]⟩, .slice none 0 0], .cells b1 (Trx.c t a1 c1 a2 c2 a3 c3)] w') (fun (j : Nat) (av : Option Addr) (cv : Nat) => t.outs.length - j) 0 none 0 ?_ ?_ ?_
    ·exact ⟨rfl, rfl, rfl, rfl, trivial⟩
    ·exact fun _ h => ⟨by omega, h.nilrow 58 9⟩
    ·intro j av cv
     refine jc_and (fun hj => ?_)
     refine jc_seq ?_
     refine jsr ?_
     refine jz ?_
     refine jz ?_
     refine jz ?_
     refine jy (y_len_slice rfl) ?_
     refine jy (y_lss rfl rfl) ?_
     refine jl_prop (fun h45 => ?_) (fun h45 => ?_)
     ·first
      | (exfalso; omega)
      | (
       have hlt : j < t.outs.length := by omega
       have hnx := take_flat0 (c := Oup.c) hlt
       obtain ⟨bb, oo, ea, hold⟩ := h2.get hlt
       subst ea
       generalize hxe : t.outs[j]'hlt = x at *
       refine jnt ?_
       refine jc_true rfl ?_
       refine jc_skip ?_
       refine jq_then ?_
       refine jc_seq ?_
       refine jc_block ?_
       refine jc_schedC (Hp w [] [.cells b3 [.slice au (i) cu, .slice av (j) cv, .int .u64 t.pf.amount, .string t.pf.sig, .string t.pf.token, .slice pq.1 t.pf.wins.length pq.2], .cells b1 (Trx.c t a1 c1 (some ⟨bb, oo, none⟩) c2 a3 c3)]) 9 [(0, true), (1, true), (2, true), (3, true), (4, true), (5, true), (6, true), (7, false), (8, false)] rfl (by kernel_rfl) (fun _ _ _ _ h => h) (fun _ h => (h.part (.cons (by first | exact del0 | exact del1 | exact del2 | exact del3) (.cons (by first | exact del3 | exact del4 | exact .tail del4 | exact .tail (.tail del4)) .nil))).drew) (fun _ h => h.drew) ?_
       simp only [pickO, nthO, List.drop_succ_cons, List.drop_zero]
       refine jkz ?_
       refine jkz ?_
       refine jkz ?_
       refine jkz ?_
       refine jkz ?_
       refine jky (y_indexAddr_slice (off := oo + j * 9) rfl rfl (by omega) (by omega) (by omega)) ?_
       refine jky (y_loadAgg_old rfl rfl hold (by simp)) ?_
       refine js_pcall (by intro _ h; exact h.part (.cons (by first | exact del0 | exact del1 | exact del2 | exact del3) (.cons (by first | exact del3 | exact del4 | exact .tail del4 | exact .tail (.tail del4)) .nil))) rfl (by decide) rfl (goes_func rfl) (fun w1 hw1 => pcall hw1 (refou_any x w1)) ?_
       refine js_m (by intros; rename_i h; exact h.part (.cons (by first | exact del0 | exact del1 | exact del2 | exact del3) (.cons (by first | exact del3 | exact del4 | exact .tail del4 | exact .tail (.tail del4)) .nil))) rfl (by decide) rfl (m_buildSlice (size := 9) (by decide) (Built.agg rfl rfl rfl (by repeat constructor) Built.nil)) (fun b56 => ?_)
       refine js_nil ?_
       refine jl_m2 rfl (by decide) rfl (m_append rfl rfl (by first | exact del0 | exact del1 | exact del2 | exact del3 | exact del4) (by first | exact del0 | exact del1 | exact del2 | exact del3 | exact del4) rfl (by omega) (by omega)) (fun a57 c57 => ?_)
       refine jz ?_
       refine jst ?_
       refine jl_nil ?_
       refine jq_block ?_
       refine jq_then ?_
       refine jc_region ?_
       refine jz ?_
       refine jy (y_add_fits rfl rfl (by simp only [fits]; omega)) ?_
       refine jz ?_
       refine jl_nil ?_
       refine jq_round3 (i := j) (j := av) (l := cv) (j + 1) a57 c57 ?_ ?_ ?_
       ·omega
       ·exact ⟨rfl, rfl, rfl, lk_int rfl (by omega), trivial⟩
       ·exact fun _ h => ⟨by omega, h.cast (by rw [hnx]; rfl)⟩
       )
     ·first
      | (exfalso; omega)
      | (
       refine jnt ?_
       refine jc_false rfl ?_
       refine jc_exit ?_
       refine jq_then_exit ?_
       refine jq_then_exit ?_
       refine jq_hit ?_
       refine jq_then ?_
       refine jsr ?_
       refine jz ?_
       refine jst ?_
       refine jnt ?_
       refine jc_ret ?_
       refine jq_res (.inl rfl) rfl (.cell rfl (by first | exact ld_agg (by first | exact mem0 | exact mem1 | exact mem2 | exact mem3 | exact mem4 | exact mem5) (by repeat constructor) | exact ld_agg (by first | exact mem0 | exact mem1 | exact mem2 | exact mem3 | exact mem4 | exact mem5) (by assumption)) .nil) ?_
       exact fun _ hw => (by have hie : i = t.ins.length := (by omega); have hje : j = t.outs.length := (by omega); subst hie hje; have h9 := hw.part (F := [.row au (t.ins.length) cu 104 4 ((t.ins.take (t.ins.length)).flatMap Inp.c), .row av (t.outs.length) cv 58 9 ((t.outs.take (t.outs.length)).flatMap Oup.c), .row pq.1 t.pf.wins.length pq.2 142 10 (t.pf.wins.flatMap Wn.c)]) (.cons (by first | exact del1 | exact del2) (.cons (by first | exact del0 | exact del1) (.cons (by first | exact del0 | exact del1 | exact del2) .nil))); rw [List.take_length, List.take_length] at h9; exact ⟨((au, cu), (av, cv), pq), rfl, h9⟩)
       )
    )

theorem rfits_any (o : Oup) (w : World) (hf : o.Fit) :
  Calls Tryz.prog 61 #[.agg (Oup.c o).toArray] w fun e w' => e = .returned (.bool (ouFits o)) ∧ Ch [] w w' := by
 have hfa := hf.amount
 simp only [fits] at hfa
 have hz2 := size_zero (s := o.of)
 have hz3 := size_zero (s := o.anchor)
 refine calls_of (n := 82) (E := [(0, .agg (Oup.c o).toArray)]) (W := Hp w [] []) Tryz.func61 rfl rfl (Nat.le_of_ble_eq_true rfl) rfl (Hp.nil _ _) ?_
 refine jsr ?_
 refine jl_m rfl (by decide) rfl (m_box rfl rfl) (fun b1 => ?_)
 refine jz ?_
 refine jnt ?_
 refine jc_seq ?_
 refine jsr ?_
 refine jz ?_
 refine jz ?_
 refine jy (y_eql rfl rfl) ?_
 refine jl_prop (fun h5 => ?_) (fun h5 => ?_)
 ·first
  | (exfalso; omega)
  | (
   refine jz ?_
   refine jsk ?_
   refine jsk ?_
   refine jsk ?_
   refine jsk ?_
   refine jy (y_pick_true rfl rfl) ?_
   refine jnt ?_
   refine jc_true rfl ?_
   refine jsr ?_
   refine jz ?_
   refine jnt ?_
   refine jc_ret ?_
   refine jq_then_ret ?_
   refine jq_ret1 rfl rfl ?_
   exact fun _ hw => ⟨congrArg (fun b => Ending.returned (Value.bool b)) ((fits_key (by omega)).symm), hw.ch⟩
   )
 ·first
  | (exfalso; omega)
  | (
   refine jz ?_
   refine jz ?_
   refine jz ?_
   refine jy (y_len_str rfl) ?_
   refine jy (y_neq rfl rfl) ?_
   refine jl_prop (fun h10 => ?_) (fun h10 => ?_)
   ·first
    | (exfalso; omega)
    | (
     refine jy (y_pick_false rfl rfl) ?_
     refine jnt ?_
     refine jc_true rfl ?_
     refine jsr ?_
     refine jz ?_
     refine jnt ?_
     refine jc_ret ?_
     refine jq_then_ret ?_
     refine jq_ret1 rfl rfl ?_
     exact fun _ hw => ⟨congrArg (fun b => Ending.returned (Value.bool b)) ((fits_key (by omega)).symm), hw.ch⟩
     )
   ·first
    | (exfalso; omega)
    | (
     refine jy (y_pick_false rfl rfl) ?_
     refine jnt ?_
     refine jc_false rfl ?_
     refine jc_skip ?_
     refine jq_then ?_
     refine jc_seq ?_
     refine jsr ?_
     refine jz ?_
     refine jz ?_
     refine jy (y_eql rfl rfl) ?_
     refine jl_prop (fun h14 => ?_) (fun h14 => ?_)
     ·first
      | (exfalso; omega)
      | (
       refine jnt ?_
       refine jc_true rfl ?_
       refine jsr ?_
       refine jz ?_
       refine jz ?_
       refine jz ?_
       refine jz ?_
       refine jz ?_
       refine jy (y_build (Built.cell rfl rfl rfl (by repeat constructor) (Built.cell rfl rfl rfl (by repeat constructor) (Built.cell rfl rfl rfl (by repeat constructor) Built.nil)))) ?_
       refine jy (y_eql_agg rfl rfl (by kernel_rfl) (fun w => eq_rou 9998 o ⟨1, o.amount, o.key, ⟨#[]⟩, 0, ⟨#[]⟩, 0, 0, ⟨#[]⟩⟩ w)) ?_
       refine jz ?_
       refine jnt ?_
       refine jc_ret ?_
       refine jq_then_ret ?_
       refine jq_ret1 rfl rfl ?_
       exact fun _ hw => ⟨congrArg (fun b => Ending.returned (Value.bool b)) ((fits_1 (by omega) (by omega) (by omega)).symm), hw.ch⟩
       )
     ·first
      | (exfalso; omega)
      | (
       refine jnt ?_
       refine jc_false rfl ?_
       refine jc_skip ?_
       refine jq_then ?_
       refine jc_seq ?_
       refine jsr ?_
       refine jz ?_
       refine jz ?_
       refine jy (y_len_str rfl) ?_
       refine jy (y_neq rfl rfl) ?_
       refine jl_prop (fun h25 => ?_) (fun h25 => ?_)
       ·first
        | (exfalso; omega)
        | (
         refine jz ?_
         refine jsk ?_
         refine jsk ?_
         refine jsk ?_
         refine jy (y_pick_true rfl rfl) ?_
         refine jz ?_
         refine jsk ?_
         refine jsk ?_
         refine jsk ?_
         refine jy (y_pick_true rfl rfl) ?_
         refine jnt ?_
         refine jc_true rfl ?_
         refine jsr ?_
         refine jz ?_
         refine jnt ?_
         refine jc_ret ?_
         refine jq_then_ret ?_
         refine jq_ret1 rfl rfl ?_
         exact fun _ hw => ⟨congrArg (fun b => Ending.returned (Value.bool b)) ((fits_gate (by omega) (by omega)).symm), hw.ch⟩
         )
       ·first
        | (exfalso; omega)
        | (
         refine jz ?_
         refine jz ?_
         refine jz ?_
         refine jy (y_lss rfl rfl) ?_
         refine jl_prop (fun h29 => ?_) (fun h29 => ?_)
         ·first
          | (exfalso; omega)
          | (
           refine jy (y_pick_false rfl rfl) ?_
           refine jz ?_
           refine jsk ?_
           refine jsk ?_
           refine jsk ?_
           refine jy (y_pick_true rfl rfl) ?_
           refine jnt ?_
           refine jc_true rfl ?_
           refine jsr ?_
           refine jz ?_
           refine jnt ?_
           refine jc_ret ?_
           refine jq_then_ret ?_
           refine jq_ret1 rfl rfl ?_
           exact fun _ hw => ⟨congrArg (fun b => Ending.returned (Value.bool b)) ((fits_gate (by omega) (by omega)).symm), hw.ch⟩
           )
         ·first
          | (exfalso; omega)
          | (
           refine jy (y_pick_false rfl rfl) ?_
           refine jz ?_
           refine jz ?_
           refine jz ?_
           refine jy (y_gtr rfl rfl) ?_
           refine jl_prop (fun h34 => ?_) (fun h34 => ?_)
           ·first
            | (exfalso; omega)
            | (
             refine jy (y_pick_false rfl rfl) ?_
             refine jnt ?_
             refine jc_true rfl ?_
             refine jsr ?_
             refine jz ?_
             refine jnt ?_
             refine jc_ret ?_
             refine jq_then_ret ?_
             refine jq_ret1 rfl rfl ?_
             exact fun _ hw => ⟨congrArg (fun b => Ending.returned (Value.bool b)) ((fits_gate (by omega) (by omega)).symm), hw.ch⟩
             )
           ·first
            | (exfalso; omega)
            | (
             refine jy (y_pick_false rfl rfl) ?_
             refine jnt ?_
             refine jc_false rfl ?_
             refine jc_skip ?_
             refine jq_then ?_
             refine jc_seq ?_
             refine jsr ?_
             refine jz ?_
             refine jz ?_
             refine jy (y_eql rfl rfl) ?_
             refine jl_prop (fun h38 => ?_) (fun h38 => ?_)
             ·first
              | (exfalso; omega)
              | (
               refine jnt ?_
               refine jc_true rfl ?_
               refine jsr ?_
               refine jz ?_
               refine jz ?_
               refine jy (y_len_str rfl) ?_
               refine jy (y_eql rfl rfl) ?_
               refine jl_prop (fun h42 => ?_) (fun h42 => ?_)
               ·first
                | (exfalso; omega)
                | (
                 refine jz ?_
                 refine jz ?_
                 refine jz ?_
                 refine jy (y_geq rfl rfl) ?_
                 refine jl_prop (fun h46 => ?_) (fun h46 => ?_)
                 ·first
                  | (exfalso; omega)
                  | (
                   refine jy (y_pick_true rfl rfl) ?_
                   refine jz ?_
                   refine jz ?_
                   refine jz ?_
                   refine jy (y_leq rfl rfl) ?_
                   refine jl_prop (fun h51 => ?_) (fun h51 => ?_)
                   ·first
                    | (exfalso; omega)
                    | (
                     refine jy (y_pick_true rfl rfl) ?_
                     refine jz ?_
                     refine jz ?_
                     refine jz ?_
                     refine jy (y_seql rfl rfl) ?_
                     refine jy (y_pick_true rfl rfl) ?_
                     refine jz ?_
                     refine jnt ?_
                     refine jc_ret ?_
                     refine jq_then_ret ?_
                     refine jq_ret1 rfl rfl ?_
                     exact fun _ hw => ⟨congrArg (fun b => Ending.returned (Value.bool b)) (by rw [fits_2 (by omega) (by omega) (by omega) (by omega), Bool.eq_iff_iff]; simp only [decide_eq_true_eq, Bool.false_eq_true, false_iff]; first | (rintro ⟨q1, q2, q3, q4⟩; omega) | exact ⟨fun h => ⟨by omega, by omega, by omega, h⟩, fun h => h.2.2.2⟩), hw.ch⟩
                     )
                   ·first
                    | (exfalso; omega)
                    | (
                     refine jy (y_pick_true rfl rfl) ?_
                     refine jz ?_
                     refine jsk ?_
                     refine jsk ?_
                     refine jsk ?_
                     refine jy (y_pick_false rfl rfl) ?_
                     refine jz ?_
                     refine jnt ?_
                     refine jc_ret ?_
                     refine jq_then_ret ?_
                     refine jq_ret1 rfl rfl ?_
                     exact fun _ hw => ⟨congrArg (fun b => Ending.returned (Value.bool b)) (by rw [fits_2 (by omega) (by omega) (by omega) (by omega), Bool.eq_iff_iff]; simp only [decide_eq_true_eq, Bool.false_eq_true, false_iff]; first | (rintro ⟨q1, q2, q3, q4⟩; omega) | exact ⟨fun h => ⟨by omega, by omega, by omega, h⟩, fun h => h.2.2.2⟩), hw.ch⟩
                     )
                   )
                 ·first
                  | (exfalso; omega)
                  | (
                   refine jy (y_pick_true rfl rfl) ?_
                   refine jz ?_
                   refine jsk ?_
                   refine jsk ?_
                   refine jsk ?_
                   refine jy (y_pick_false rfl rfl) ?_
                   refine jz ?_
                   refine jsk ?_
                   refine jsk ?_
                   refine jsk ?_
                   refine jy (y_pick_false rfl rfl) ?_
                   refine jz ?_
                   refine jnt ?_
                   refine jc_ret ?_
                   refine jq_then_ret ?_
                   refine jq_ret1 rfl rfl ?_
                   exact fun _ hw => ⟨congrArg (fun b => Ending.returned (Value.bool b)) (by rw [fits_2 (by omega) (by omega) (by omega) (by omega), Bool.eq_iff_iff]; simp only [decide_eq_true_eq, Bool.false_eq_true, false_iff]; first | (rintro ⟨q1, q2, q3, q4⟩; omega) | exact ⟨fun h => ⟨by omega, by omega, by omega, h⟩, fun h => h.2.2.2⟩), hw.ch⟩
                   )
                 )
               ·first
                | (exfalso; omega)
                | (
                 refine jz ?_
                 refine jsk ?_
                 refine jsk ?_
                 refine jsk ?_
                 refine jy (y_pick_false rfl rfl) ?_
                 refine jz ?_
                 refine jsk ?_
                 refine jsk ?_
                 refine jsk ?_
                 refine jy (y_pick_false rfl rfl) ?_
                 refine jz ?_
                 refine jsk ?_
                 refine jsk ?_
                 refine jsk ?_
                 refine jy (y_pick_false rfl rfl) ?_
                 refine jz ?_
                 refine jnt ?_
                 refine jc_ret ?_
                 refine jq_then_ret ?_
                 refine jq_ret1 rfl rfl ?_
                 exact fun _ hw => ⟨congrArg (fun b => Ending.returned (Value.bool b)) (by rw [fits_2 (by omega) (by omega) (by omega) (by omega), Bool.eq_iff_iff]; simp only [decide_eq_true_eq, Bool.false_eq_true, false_iff]; first | (rintro ⟨q1, q2, q3, q4⟩; omega) | exact ⟨fun h => ⟨by omega, by omega, by omega, h⟩, fun h => h.2.2.2⟩), hw.ch⟩
                 )
               )
             ·first
              | (exfalso; omega)
              | (
               refine jnt ?_
               refine jc_false rfl ?_
               refine jc_skip ?_
               refine jq_then ?_
               refine jsr ?_
               refine jz ?_
               refine jz ?_
               refine jy (y_eql rfl rfl) ?_
               refine jl_prop (fun h60 => ?_) (fun h60 => ?_)
               ·first
                | (exfalso; omega)
                | (
                 refine jz ?_
                 refine jz ?_
                 refine jz ?_
                 refine jy (y_len_str rfl) ?_
                 refine jy (y_eql rfl rfl) ?_
                 refine jl_prop (fun h65 => ?_) (fun h65 => ?_)
                 ·first
                  | (exfalso; omega)
                  | (
                   refine jy (y_pick_true rfl rfl) ?_
                   refine jz ?_
                   refine jz ?_
                   refine jz ?_
                   refine jy (y_seql rfl rfl) ?_
                   refine jl_prop (fun h70 => ?_) (fun h70 => ?_)
                   ·skip
                    refine jy (y_pick_true rfl rfl) ?_
                    refine jz ?_
                    refine jz ?_
                    refine jz ?_
                    refine jy (y_eql rfl rfl) ?_
                    refine jl_prop (fun h75 => ?_) (fun h75 => ?_)
                    ·first
                     | (exfalso; omega)
                     | (
                      refine jy (y_pick_true rfl rfl) ?_
                      refine jz ?_
                      refine jz ?_
                      refine jz ?_
                      refine jy (y_eql rfl rfl) ?_
                      refine jy (y_pick_true rfl rfl) ?_
                      refine jz ?_
                      refine jnt ?_
                      refine jc_ret ?_
                      refine jq_ret1 rfl rfl ?_
                      exact fun _ hw => ⟨congrArg (fun b => Ending.returned (Value.bool b)) (by rw [fits_3 (by omega) (by omega) (by omega) (by omega) (by omega), Bool.eq_iff_iff]; simp only [decide_eq_true_eq, Bool.false_eq_true, false_iff]; first | (rintro ⟨q1, q2, q3, q4, q5⟩; first | omega | contradiction) | exact ⟨fun h => ⟨by omega, by omega, by assumption, by omega, h⟩, fun h => h.2.2.2.2⟩), hw.ch⟩
                      )
                    ·first
                     | (exfalso; omega)
                     | (
                      refine jy (y_pick_true rfl rfl) ?_
                      refine jz ?_
                      refine jsk ?_
                      refine jsk ?_
                      refine jsk ?_
                      refine jy (y_pick_false rfl rfl) ?_
                      refine jz ?_
                      refine jnt ?_
                      refine jc_ret ?_
                      refine jq_ret1 rfl rfl ?_
                      exact fun _ hw => ⟨congrArg (fun b => Ending.returned (Value.bool b)) (by rw [fits_3 (by omega) (by omega) (by omega) (by omega) (by omega), Bool.eq_iff_iff]; simp only [decide_eq_true_eq, Bool.false_eq_true, false_iff]; first | (rintro ⟨q1, q2, q3, q4, q5⟩; first | omega | contradiction) | exact ⟨fun h => ⟨by omega, by omega, by assumption, by omega, h⟩, fun h => h.2.2.2.2⟩), hw.ch⟩
                      )
                   ·skip
                    refine jy (y_pick_true rfl rfl) ?_
                    refine jz ?_
                    refine jsk ?_
                    refine jsk ?_
                    refine jsk ?_
                    refine jy (y_pick_false rfl rfl) ?_
                    refine jz ?_
                    refine jsk ?_
                    refine jsk ?_
                    refine jsk ?_
                    refine jy (y_pick_false rfl rfl) ?_
                    refine jz ?_
                    refine jnt ?_
                    refine jc_ret ?_
                    refine jq_ret1 rfl rfl ?_
                    exact fun _ hw => ⟨congrArg (fun b => Ending.returned (Value.bool b)) (by rw [fits_3 (by omega) (by omega) (by omega) (by omega) (by omega), Bool.eq_iff_iff]; simp only [decide_eq_true_eq, Bool.false_eq_true, false_iff]; first | (rintro ⟨q1, q2, q3, q4, q5⟩; first | omega | contradiction) | exact ⟨fun h => ⟨by omega, by omega, by assumption, by omega, h⟩, fun h => h.2.2.2.2⟩), hw.ch⟩
                   )
                 ·first
                  | (exfalso; omega)
                  | (
                   refine jy (y_pick_true rfl rfl) ?_
                   refine jz ?_
                   refine jsk ?_
                   refine jsk ?_
                   refine jsk ?_
                   refine jy (y_pick_false rfl rfl) ?_
                   refine jz ?_
                   refine jsk ?_
                   refine jsk ?_
                   refine jsk ?_
                   refine jy (y_pick_false rfl rfl) ?_
                   refine jz ?_
                   refine jsk ?_
                   refine jsk ?_
                   refine jsk ?_
                   refine jy (y_pick_false rfl rfl) ?_
                   refine jz ?_
                   refine jnt ?_
                   refine jc_ret ?_
                   refine jq_ret1 rfl rfl ?_
                   exact fun _ hw => ⟨congrArg (fun b => Ending.returned (Value.bool b)) (by rw [fits_3 (by omega) (by omega) (by omega) (by omega) (by omega), Bool.eq_iff_iff]; simp only [decide_eq_true_eq, Bool.false_eq_true, false_iff]; first | (rintro ⟨q1, q2, q3, q4, q5⟩; first | omega | contradiction) | exact ⟨fun h => ⟨by omega, by omega, by assumption, by omega, h⟩, fun h => h.2.2.2.2⟩), hw.ch⟩
                   )
                 )
               ·first
                | (exfalso; omega)
                | (
                 refine jz ?_
                 refine jsk ?_
                 refine jsk ?_
                 refine jsk ?_
                 refine jsk ?_
                 refine jy (y_pick_false rfl rfl) ?_
                 refine jz ?_
                 refine jsk ?_
                 refine jsk ?_
                 refine jsk ?_
                 refine jy (y_pick_false rfl rfl) ?_
                 refine jz ?_
                 refine jsk ?_
                 refine jsk ?_
                 refine jsk ?_
                 refine jy (y_pick_false rfl rfl) ?_
                 refine jz ?_
                 refine jsk ?_
                 refine jsk ?_
                 refine jsk ?_
                 refine jy (y_pick_false rfl rfl) ?_
                 refine jz ?_
                 refine jnt ?_
                 refine jc_ret ?_
                 refine jq_ret1 rfl rfl ?_
                 exact fun _ hw => ⟨congrArg (fun b => Ending.returned (Value.bool b)) (by rw [fits_3 (by omega) (by omega) (by omega) (by omega) (by omega), Bool.eq_iff_iff]; simp only [decide_eq_true_eq, Bool.false_eq_true, false_iff]; first | (rintro ⟨q1, q2, q3, q4, q5⟩; first | omega | contradiction) | exact ⟨fun h => ⟨by omega, by omega, by assumption, by omega, h⟩, fun h => h.2.2.2.2⟩), hw.ch⟩
                 )
               )
             )
           )
         )
       )
     )
   )

end Go.Proofs.YtomhcibbalhgkaaGreat

namespace Go.Proofs.YtomhcibbalhgkaaGreat
open Go.RowKit
set_option maxRecDepth 100000
set_option maxHeartbeats 4000000
set_option linter.unusedVariables false
set_option linter.unusedSimpArgs false
attribute [local irreducible] Yields Makes Writes
theorem kind4 (k : Int) : k = 1 ∨ k = 2 ∨ k = 3 ∨ (k ≠ 1 ∧ k ≠ 2 ∧ k ≠ 3) := by omega

end Go.Proofs.YtomhcibbalhgkaaGreat

namespace Go.Proofs.YtomhcibbalhgkaaGreat
open Go.RowKit
set_option maxRecDepth 100000
set_option maxHeartbeats 4000000
set_option linter.unusedVariables false
set_option linter.unusedSimpArgs false
attribute [local irreducible] Yields Makes Writes
theorem tx_no3 {t : Trx} {o : Oup} {i : Nat} (hi : i < t.outs.length) (hx : t.outs[i] = o) (h : ouFits o = false) : false = txRight t := by
  rw [eq_comm, Bool.eq_false_iff]
  intro hr
  have h1 := (txRight_iff.1 hr).2.2.2.2.1 o (hx ▸ List.getElem_mem hi)
  rw [h] at h1
  exact absurd h1 (by decide)
theorem in_no {x : Inp} (h : ¬ (x.pt.tx.size = 16 ∧ (0 ≤ x.pt.out ∧ x.pt.out ≤ 255) ∧ (1 ≤ x.path ∧ x.path ≤ 3) ∧ x.sig.size ≤ 400)) : inFits x = false := by
  rw [Bool.eq_false_iff]
  intro h2
  exact h (inFits_iff.1 h2)
theorem pt_in {t : Trx} {i k : Nat} {x y : Inp} (hk : k < i) (hi : i < t.ins.length) (hy : t.ins[k]'(by omega) = y) (e : y.pt = x.pt) : x.pt ∈ (t.ins.take i).map Inp.pt := by
  refine List.mem_map.2 ⟨y, ?_, e⟩
  rw [← hy]
  exact List.mem_iff_getElem.2 ⟨k, by rw [List.length_take]; omega, by rw [List.getElem_take]⟩
theorem pt_out {l : List Inp} {x : Inp} (h : ∀ z ∈ l, z.pt ≠ x.pt) : x.pt ∉ l.map Inp.pt := fun hm => by
  obtain ⟨z, hz, e⟩ := List.mem_map.1 hm
  exact h z hz e
theorem bl_empty {S : ByteArray} {x : RS} {m : Int} (h : ¬ (blS S x m).2 = 0) : blV S x m = ⟨#[]⟩ := by
  unfold blS at h
  unfold blV
  by_cases h0 : (tkS S x 2).2 = 0
  · rw [if_pos h0] at h ⊢
    by_cases h1 : (tkS S (blT S x m) (lenV S x)).2 = 0
    · rw [if_pos h1] at h; exact absurd h1 h
    · exact tk_empty h1
  · rw [if_neg h0]
theorem ta {S : ByteArray} (h : ¬ (dA S).2 = 0) : txErr S = (dA S).2 := by
  have hc : dC S = ⟨#[]⟩ := bl_empty h
  rw [te5 hc]
  unfold endE flS failE
  simp only [if_neg h, h, false_and, if_false]
theorem tb {S : ByteArray} (h : (dA S).2 = 0) (hc : dC S = ⟨#[]⟩) : txErr S = 4 := by
  rw [te5 hc]
  unfold endE flS failE
  simp only [if_pos h]
  rw [if_neg (by simp)]
def e35' (x : RS) : Prop := x.2 = 0 ∨ x.2 = 3 ∨ x.2 = 5
theorem tk35' {S : ByteArray} {x : RS} {n : Nat} (h : e35' x) : e35' (tkS S x n) := by
  unfold tkS
  split
  · split
    · exact .inl rfl
    · exact .inr (.inl rfl)
  · exact h
theorem bl35' {S : ByteArray} {x : RS} {m : Int} (h : e35' x) : e35' (blS S x m) := by
  have h1 := tk35' (S := S) (n := 2) h
  have h2 : e35' (blT S x m) := by
    unfold blT
    split
    · unfold failE e35'
      simp only
      split
      · exact .inr (.inr rfl)
      · exact h1
    · exact h1
  have h3 := tk35' (S := S) (n := lenV S x) h2
  unfold blS
  split
  · split
    · exact h3
    · exact h3
  · exact h1
theorem sg35' {S : ByteArray} {x : RS} (h : e35' x) : ∀ k, e35' (sgX S x k)
  | 0 => h
  | k + 1 => bl35' (sg35' h k)
theorem dE35 (S : ByteArray) : (dE S).2 = 0 ∨ (dE S).2 = 3 ∨ (dE S).2 = 5 := bl35' (sg35' (bl35' (.inl rfl)) _)
theorem endE_bad {S : ByteArray} {x : RS} (h : ¬ x.2 = 0) : endE S x = x.2 := by unfold endE; rw [if_neg (fun h2 => h h2.1)]
theorem endE_ok {S : ByteArray} {x : RS} (h : x.2 = 0) : ¬ (endE S x ≠ 0 ∧ endE S x ≠ 4) := by
  unfold endE
  split
  · omega
  · omega

theorem rtxright_any (t : Trx) (a1 : Option Addr) (c1 : Nat) (a2 : Option Addr) (c2 : Nat) (a3 : Option Addr) (c3 : Nat) (w : World) (hf : t.Fit) (h1 : ElAt w a1 4 (t.ins.map Inp.c)) (h2 : ElAt w a2 9 (t.outs.map Oup.c)) (h3 : ElAt w a3 10 (t.pf.wins.map Wn.c)) (l1 : t.ins.length ≤ 1000000000) (l2 : t.outs.length ≤ 1000000000) (l3 : t.pf.wins.length ≤ 1000000000) :
  Calls Tryz.prog 25 #[.agg (Trx.c t a1 c1 a2 c2 a3 c3).toArray] w fun e w' => e = .returned (.bool (txRight t)) ∧ Ch [] w w' := by
 refine calls_of (n := 107) (E := [(0, .agg (Trx.c t a1 c1 a2 c2 a3 c3).toArray)]) (W := Hp w [] []) Tryz.func25 rfl rfl (Nat.le_of_ble_eq_true rfl) rfl (Hp.nil _ _) ?_
 refine jsr ?_
 refine jl_m rfl (by decide) rfl (m_box rfl rfl) (fun b1 => ?_)
 refine jz ?_
 refine jnt ?_
 refine jc_seq ?_
 refine jsr ?_
 refine jz ?_
 refine jnt ?_
 refine jc_block ?_
 refine jc_loop (fun (i : Nat) => [(1, .pointer (some ⟨b1, 0, none⟩)), (3, .int .i64 (i : Nat))]) (fun (i : Nat) => fun w' => (i ≤ t.ins.length ∧ (∀ z ∈ t.ins.take i, inFits z = true) ∧ ((t.ins.take i).map Inp.pt).Nodup) ∧ Hp w [] [.cells b1 (Trx.c t a1 c1 a2 c2 a3 c3)] w') (fun (i : Nat) => t.ins.length - i) 0 ?_ ?_ ?_
 ·exact ⟨rfl, rfl, trivial⟩
 ·exact fun _ h => ⟨⟨by omega, by simp, by simp⟩, h⟩
 ·intro i
  refine jc_and (fun hi => ?_)
  refine jc_seq ?_
  refine jsr ?_
  refine jz ?_
  refine jz ?_
  refine jz ?_
  refine jy (y_len_slice rfl) ?_
  refine jy (y_lss rfl rfl) ?_
  refine jl_prop (fun h11 => ?_) (fun h11 => ?_)
  ·first
   | (exfalso; omega)
   | (
    have hlt : i < t.ins.length := by omega
    obtain ⟨bb, oo, ea, hall⟩ : ∃ b o, a1 = some ⟨b, o, none⟩ ∧ ∀ k (hk : k < t.ins.length), Old w b (o + k * 4) (Inp.c t.ins[k]) := (by obtain ⟨b, o, e, _⟩ := h1.get hlt; refine ⟨b, o, e, fun k hk => ?_⟩; obtain ⟨b', o', e', h'⟩ := h1.get hk; rw [e] at e'; cases e'; exact h')
    subst ea
    have hold := hall i hlt
    generalize hxe : t.ins[i]'hlt = x at *
    refine jnt ?_
    refine jc_true rfl ?_
    refine jc_skip ?_
    refine jq_then ?_
    refine jc_seq ?_
    refine jc_block ?_
    refine jsr ?_
    refine jz ?_
    refine jz ?_
    refine jz ?_
    refine jy (y_indexAddr_slice (off := oo + i * 4) rfl rfl (by omega) (by omega) (by omega)) ?_
    refine jy (y_loadAgg_old rfl rfl hold (by simp)) ?_
    refine jl_m rfl (by decide) rfl (m_alloc) (fun b4 => ?_)
    refine jst ?_
    refine jnt ?_
    refine jc_seq ?_
    refine jsr ?_
    refine jz ?_
    refine jz ?_
    refine jz ?_
    refine jy (y_len_str rfl) ?_
    refine jy (y_neq rfl rfl) ?_
    refine jl_prop (fun h23 => ?_) (fun h23 => ?_)
    ·first
     | (exfalso; omega)
     | (
      refine jz ?_
      refine jsk ?_
      refine jsk ?_
      refine jsk ?_
      refine jsk ?_
      refine jy (y_pick_true rfl rfl) ?_
      refine jz ?_
      refine jsk ?_
      refine jsk ?_
      refine jsk ?_
      refine jsk ?_
      refine jy (y_pick_true rfl rfl) ?_
      refine jz ?_
      refine jsk ?_
      refine jsk ?_
      refine jsk ?_
      refine jy (y_pick_true rfl rfl) ?_
      refine jz ?_
      refine jsk ?_
      refine jsk ?_
      refine jsk ?_
      refine jy (y_pick_true rfl rfl) ?_
      refine jz ?_
      refine jsk ?_
      refine jsk ?_
      refine jsk ?_
      refine jsk ?_
      refine jy (y_pick_true rfl rfl) ?_
      refine jnt ?_
      refine jc_true rfl ?_
      refine jsr ?_
      refine jz ?_
      refine jnt ?_
      refine jc_ret ?_
      refine jq_then_ret ?_
      refine jq_block_ret ?_
      refine jq_then_ret ?_
      refine jq_then_ret ?_
      refine jq_block_ret ?_
      refine jq_then_ret ?_
      refine jq_ret1 rfl rfl ?_
      exact fun _ hw => ⟨congrArg (fun b => Ending.returned (Value.bool b)) (tx_no1 hlt hxe (in_no (by omega))), hw.ch⟩
      )
    ·first
     | (exfalso; omega)
     | (
      refine jz ?_
      refine jz ?_
      refine jz ?_
      refine jz ?_
      refine jy (y_lss rfl rfl) ?_
      refine jl_prop (fun h28 => ?_) (fun h28 => ?_)
      ·first
       | (exfalso; omega)
       | (
        refine jy (y_pick_false rfl rfl) ?_
        refine jz ?_
        refine jsk ?_
        refine jsk ?_
        refine jsk ?_
        refine jsk ?_
        refine jy (y_pick_true rfl rfl) ?_
        refine jz ?_
        refine jsk ?_
        refine jsk ?_
        refine jsk ?_
        refine jy (y_pick_true rfl rfl) ?_
        refine jz ?_
        refine jsk ?_
        refine jsk ?_
        refine jsk ?_
        refine jy (y_pick_true rfl rfl) ?_
        refine jz ?_
        refine jsk ?_
        refine jsk ?_
        refine jsk ?_
        refine jsk ?_
        refine jy (y_pick_true rfl rfl) ?_
        refine jnt ?_
        refine jc_true rfl ?_
        refine jsr ?_
        refine jz ?_
        refine jnt ?_
        refine jc_ret ?_
        refine jq_then_ret ?_
        refine jq_block_ret ?_
        refine jq_then_ret ?_
        refine jq_then_ret ?_
        refine jq_block_ret ?_
        refine jq_then_ret ?_
        refine jq_ret1 rfl rfl ?_
        exact fun _ hw => ⟨congrArg (fun b => Ending.returned (Value.bool b)) (tx_no1 hlt hxe (in_no (by omega))), hw.ch⟩
        )
      ·first
       | (exfalso; omega)
       | (
        refine jy (y_pick_false rfl rfl) ?_
        refine jz ?_
        refine jz ?_
        refine jz ?_
        refine jz ?_
        refine jy (y_gtr rfl rfl) ?_
        refine jl_prop (fun h34 => ?_) (fun h34 => ?_)
        ·first
         | (exfalso; omega)
         | (
          refine jy (y_pick_false rfl rfl) ?_
          refine jz ?_
          refine jsk ?_
          refine jsk ?_
          refine jsk ?_
          refine jy (y_pick_true rfl rfl) ?_
          refine jz ?_
          refine jsk ?_
          refine jsk ?_
          refine jsk ?_
          refine jy (y_pick_true rfl rfl) ?_
          refine jz ?_
          refine jsk ?_
          refine jsk ?_
          refine jsk ?_
          refine jsk ?_
          refine jy (y_pick_true rfl rfl) ?_
          refine jnt ?_
          refine jc_true rfl ?_
          refine jsr ?_
          refine jz ?_
          refine jnt ?_
          refine jc_ret ?_
          refine jq_then_ret ?_
          refine jq_block_ret ?_
          refine jq_then_ret ?_
          refine jq_then_ret ?_
          refine jq_block_ret ?_
          refine jq_then_ret ?_
          refine jq_ret1 rfl rfl ?_
          exact fun _ hw => ⟨congrArg (fun b => Ending.returned (Value.bool b)) (tx_no1 hlt hxe (in_no (by omega))), hw.ch⟩
          )
        ·first
         | (exfalso; omega)
         | (
          refine jy (y_pick_false rfl rfl) ?_
          refine jz ?_
          refine jz ?_
          refine jz ?_
          refine jy (y_lss rfl rfl) ?_
          refine jl_prop (fun h39 => ?_) (fun h39 => ?_)
          ·first
           | (exfalso; omega)
           | (
            refine jy (y_pick_false rfl rfl) ?_
            refine jz ?_
            refine jsk ?_
            refine jsk ?_
            refine jsk ?_
            refine jy (y_pick_true rfl rfl) ?_
            refine jz ?_
            refine jsk ?_
            refine jsk ?_
            refine jsk ?_
            refine jsk ?_
            refine jy (y_pick_true rfl rfl) ?_
            refine jnt ?_
            refine jc_true rfl ?_
            refine jsr ?_
            refine jz ?_
            refine jnt ?_
            refine jc_ret ?_
            refine jq_then_ret ?_
            refine jq_block_ret ?_
            refine jq_then_ret ?_
            refine jq_then_ret ?_
            refine jq_block_ret ?_
            refine jq_then_ret ?_
            refine jq_ret1 rfl rfl ?_
            exact fun _ hw => ⟨congrArg (fun b => Ending.returned (Value.bool b)) (tx_no1 hlt hxe (in_no (by omega))), hw.ch⟩
            )
          ·first
           | (exfalso; omega)
           | (
            refine jy (y_pick_false rfl rfl) ?_
            refine jz ?_
            refine jz ?_
            refine jz ?_
            refine jy (y_gtr rfl rfl) ?_
            refine jl_prop (fun h44 => ?_) (fun h44 => ?_)
            ·first
             | (exfalso; omega)
             | (
              refine jy (y_pick_false rfl rfl) ?_
              refine jz ?_
              refine jsk ?_
              refine jsk ?_
              refine jsk ?_
              refine jsk ?_
              refine jy (y_pick_true rfl rfl) ?_
              refine jnt ?_
              refine jc_true rfl ?_
              refine jsr ?_
              refine jz ?_
              refine jnt ?_
              refine jc_ret ?_
              refine jq_then_ret ?_
              refine jq_block_ret ?_
              refine jq_then_ret ?_
              refine jq_then_ret ?_
              refine jq_block_ret ?_
              refine jq_then_ret ?_
              refine jq_ret1 rfl rfl ?_
              exact fun _ hw => ⟨congrArg (fun b => Ending.returned (Value.bool b)) (tx_no1 hlt hxe (in_no (by omega))), hw.ch⟩
              )
            ·first
             | (exfalso; omega)
             | (
              refine jy (y_pick_false rfl rfl) ?_
              refine jz ?_
              refine jz ?_
              refine jz ?_
              refine jy (y_len_str rfl) ?_
              refine jy (y_gtr rfl rfl) ?_
              refine jl_prop (fun h50 => ?_) (fun h50 => ?_)
              ·first
               | (exfalso; omega)
               | (
                refine jy (y_pick_false rfl rfl) ?_
                refine jnt ?_
                refine jc_true rfl ?_
                refine jsr ?_
                refine jz ?_
                refine jnt ?_
                refine jc_ret ?_
                refine jq_then_ret ?_
                refine jq_block_ret ?_
                refine jq_then_ret ?_
                refine jq_then_ret ?_
                refine jq_block_ret ?_
                refine jq_then_ret ?_
                refine jq_ret1 rfl rfl ?_
                exact fun _ hw => ⟨congrArg (fun b => Ending.returned (Value.bool b)) (tx_no1 hlt hxe (in_no (by omega))), hw.ch⟩
                )
              ·first
               | (exfalso; omega)
               | (
                refine jy (y_pick_false rfl rfl) ?_
                refine jnt ?_
                refine jc_false rfl ?_
                refine jc_skip ?_
                refine jq_then ?_
                refine jsr ?_
                refine jz ?_
                refine jnt ?_
                refine jc_block ?_
                refine jc_loop (fun (k : Nat) => [(1, .pointer (some ⟨b1, 0, none⟩)), (3, .int .i64 (i : Nat)), (4, .pointer (some ⟨b4, 0, none⟩)), (5, .int .i64 (k : Nat))]) (fun (k : Nat) => fun w' => (k ≤ i ∧ ∀ z ∈ t.ins.take k, z.pt ≠ x.pt) ∧ Hp w [] [.cells b4 (Inp.c x), .cells b1 (Trx.c t (some ⟨bb, oo, none⟩) c1 a2 c2 a3 c3)] w') (fun (k : Nat) => i - k) 0 ?_ ?_ ?_
                ·exact ⟨rfl, rfl, rfl, rfl, trivial⟩
                ·exact fun _ h => ⟨⟨by omega, by simp⟩, h⟩
                ·intro k
                 refine jc_and (fun hk => ?_)
                 refine jc_seq ?_
                 refine jsr ?_
                 refine jz ?_
                 refine jz ?_
                 refine jy (y_lss rfl rfl) ?_
                 refine jl_prop (fun h54 => ?_) (fun h54 => ?_)
                 ·first
                  | (exfalso; omega)
                  | (
                   have hlk : k < t.ins.length := by omega
                   have holk := hall k hlk
                   generalize hye : t.ins[k]'hlk = y at *
                   refine jnt ?_
                   refine jc_true rfl ?_
                   refine jc_skip ?_
                   refine jq_then ?_
                   refine jc_seq ?_
                   refine jc_block ?_
                   refine jc_seq ?_
                   refine jc_draw (by kernel_rfl) (fun _ h => h.drew) ?_
                   refine juz ?_
                   refine juz ?_
                   refine juz ?_
                   refine juy (y_indexAddr_slice (off := oo + k * 4) rfl rfl (by omega) (by omega) (by omega)) ?_
                   refine juz ?_
                   refine juy (y_loadAgg_old rfl rfl (holk.take 2) (by simp)) ?_
                   refine juz ?_
                   refine juz ?_
                   refine juy (y_eql_agg rfl rfl (by kernel_rfl) (fun w => eq_pnt 9998 y.pt x.pt w)) ?_
                   refine ju_bool (fun h65 => ?_) (fun h65 => ?_)
                   ·skip
                    refine ju_nil ?_
                    refine jq_then ?_
                    refine jc_true rfl ?_
                    refine jsr ?_
                    refine jz ?_
                    refine jnt ?_
                    refine jc_ret ?_
                    refine jq_block_ret ?_
                    refine jq_then_ret ?_
                    refine jq_then_ret ?_
                    refine jq_block_ret ?_
                    refine jq_block_ret ?_
                    refine jq_then_ret ?_
                    refine jq_then_ret ?_
                    refine jq_block_ret ?_
                    refine jq_then_ret ?_
                    refine jq_ret1 rfl rfl ?_
                    exact fun _ hw => ⟨congrArg (fun b => Ending.returned (Value.bool b)) (tx_no2 hlt hxe (pt_in (by omega) hlt hye (by simp_all))), hw.ch⟩
                   ·skip
                    refine ju_nil ?_
                    refine jq_then ?_
                    refine jc_false rfl ?_
                    refine jc_skip ?_
                    refine jq_block ?_
                    refine jq_then ?_
                    refine jc_region ?_
                    refine jz ?_
                    refine jy (y_add_fits rfl rfl (by simp only [fits]; omega)) ?_
                    refine jz ?_
                    refine jl_nil ?_
                    refine jq_round (i := k) (k + 1) ?_ ?_ ?_
                    ·omega
                    ·exact ⟨rfl, rfl, rfl, lk_int rfl (by omega), trivial⟩
                    ·exact fun _ h => ⟨⟨by omega, all_take hlk hk.2 (by rw [hye]; simp_all)⟩, h⟩
                   )
                 ·first
                  | (exfalso; omega)
                  | (
                   refine jnt ?_
                   refine jc_false rfl ?_
                   refine jc_exit ?_
                   refine jq_then_exit ?_
                   refine jq_then_exit ?_
                   refine jq_hit ?_
                   refine jq_block ?_
                   refine jq_then ?_
                   refine jc_region ?_
                   refine jz ?_
                   refine jy (y_add_fits rfl rfl (by simp only [fits]; omega)) ?_
                   refine jz ?_
                   refine jl_nil ?_
                   refine jq_round (i := i) (i + 1) ?_ ?_ ?_
                   ·omega
                   ·exact ⟨rfl, lk_int rfl (by omega), trivial⟩
                   ·exact fun _ h => ⟨⟨by omega, all_take hlt hi.2.1 (by rw [hxe]; exact inFits_iff.2 (by omega)), nd_next hlt hxe hi.2.2 (pt_out (by have h9 := hk.2; rwa [show k = i by omega] at h9))⟩, h.pop⟩
                   )
                )
              )
            )
          )
        )
      )
    )
  ·first
   | (exfalso; omega)
   | (
    refine jnt ?_
    refine jc_false rfl ?_
    refine jc_exit ?_
    refine jq_then_exit ?_
    refine jq_then_exit ?_
    refine jq_hit ?_
    refine jq_then ?_
    refine jc_seq ?_
    refine jsr ?_
    refine jz ?_
    refine jnt ?_
    refine jc_block ?_
    refine jc_loop (fun (j : Nat) => [(1, .pointer (some ⟨b1, 0, none⟩)), (6, .int .i64 (j : Nat))]) (fun (j : Nat) => fun w' => (j ≤ t.outs.length ∧ ∀ z ∈ t.outs.take j, ouFits z = true) ∧ Hp w [] [.cells b1 (Trx.c t a1 c1 a2 c2 a3 c3)] w') (fun (j : Nat) => t.outs.length - j) 0 ?_ ?_ ?_
    ·exact ⟨rfl, rfl, trivial⟩
    ·exact fun _ h => ⟨⟨by omega, by simp⟩, h⟩
    ·intro j
     refine jc_and (fun hj => ?_)
     refine jc_seq ?_
     refine jsr ?_
     refine jz ?_
     refine jz ?_
     refine jz ?_
     refine jy (y_len_slice rfl) ?_
     refine jy (y_lss rfl rfl) ?_
     refine jl_prop (fun h70 => ?_) (fun h70 => ?_)
     ·first
      | (exfalso; omega)
      | (
       have hlt : j < t.outs.length := by omega
       obtain ⟨bb, oo, ea, hold⟩ := h2.get hlt
       subst ea
       have hfx := hf.outs _ (List.getElem_mem hlt)
       generalize hxe : t.outs[j]'hlt = x at *
       refine jnt ?_
       refine jc_true rfl ?_
       refine jc_skip ?_
       refine jq_then ?_
       refine jc_seq ?_
       refine jc_block ?_
       refine jsr ?_
       refine jz ?_
       refine jz ?_
       refine jz ?_
       refine jy (y_indexAddr_slice (off := oo + j * 9) rfl rfl (by omega) (by omega) (by omega)) ?_
       refine jy (y_loadAgg_old rfl rfl hold (by simp)) ?_
       refine jpc (goes_func rfl) (fun w1 hw1 => rfits_any x w1 hfx) ?_
       refine jl_bool (fun h78 => ?_) (fun h78 => ?_)
       ·skip
        refine jz ?_
        refine jnt ?_
        refine jc_false rfl ?_
        refine jc_skip ?_
        refine jq_block ?_
        refine jq_then ?_
        refine jc_region ?_
        refine jz ?_
        refine jy (y_add_fits rfl rfl (by simp only [fits]; omega)) ?_
        refine jz ?_
        refine jl_nil ?_
        refine jq_round (i := j) (j + 1) ?_ ?_ ?_
        ·omega
        ·exact ⟨rfl, lk_int rfl (by omega), trivial⟩
        ·exact fun _ h => ⟨⟨by omega, all_take hlt hj.2 (by rw [hxe]; assumption)⟩, h⟩
       ·skip
        refine jz ?_
        refine jnt ?_
        refine jc_true rfl ?_
        refine jsr ?_
        refine jz ?_
        refine jnt ?_
        refine jc_ret ?_
        refine jq_block_ret ?_
        refine jq_then_ret ?_
        refine jq_then_ret ?_
        refine jq_block_ret ?_
        refine jq_then_ret ?_
        refine jq_ret1 rfl rfl ?_
        exact fun _ hw => ⟨congrArg (fun b => Ending.returned (Value.bool b)) (tx_no3 hlt hxe (by assumption)), hw.ch⟩
       )
     ·first
      | (exfalso; omega)
      | (
       refine jnt ?_
       refine jc_false rfl ?_
       refine jc_exit ?_
       refine jq_then_exit ?_
       refine jq_then_exit ?_
       refine jq_hit ?_
       refine jq_then ?_
       refine jsr ?_
       refine jz ?_
       refine jz ?_
       refine jy (y_len_slice rfl) ?_
       refine jy (y_geq rfl rfl) ?_
       refine jl_prop (fun h83 => ?_) (fun h83 => ?_)
       ·first
        | (exfalso; omega)
        | (
         refine jz ?_
         refine jz ?_
         refine jz ?_
         refine jy (y_len_slice rfl) ?_
         refine jy (y_leq rfl rfl) ?_
         refine jl_prop (fun h88 => ?_) (fun h88 => ?_)
         ·first
          | (exfalso; omega)
          | (
           refine jy (y_pick_true rfl rfl) ?_
           refine jz ?_
           refine jz ?_
           refine jz ?_
           refine jy (y_len_slice rfl) ?_
           refine jy (y_geq rfl rfl) ?_
           refine jl_prop (fun h94 => ?_) (fun h94 => ?_)
           ·first
            | (exfalso; omega)
            | (
             refine jy (y_pick_true rfl rfl) ?_
             refine jz ?_
             refine jz ?_
             refine jz ?_
             refine jy (y_len_slice rfl) ?_
             refine jy (y_leq rfl rfl) ?_
             refine jl_prop (fun h100 => ?_) (fun h100 => ?_)
             ·first
              | (exfalso; omega)
              | (
               refine jy (y_pick_true rfl rfl) ?_
               refine jz ?_
               refine jz ?_
               refine jz ?_
               refine jpc (goes_func rfl) (fun w1 hw1 => rright_any t.pf a3 c3 w1 (h3.keep hw1) l3) ?_
               refine jy (y_pick_true rfl rfl) ?_
               refine jz ?_
               refine jnt ?_
               refine jc_ret ?_
               refine jq_ret1 rfl rfl ?_
               exact fun _ hw => ⟨congrArg (fun b => Ending.returned (Value.bool b)) (by have ha1 : ∀ z ∈ t.ins, inFits z = true := (by have := hi.2.1; rwa [List.take_of_length_le (by omega)] at this); have hnd : (t.ins.map Inp.pt).Nodup := (by have := hi.2.2; rwa [List.take_of_length_le (by omega)] at this); have ha2 : ∀ z ∈ t.outs, ouFits z = true := (by have := hj.2; rwa [List.take_of_length_le (by omega)] at this); rw [Bool.eq_iff_iff, txRight_iff]; first | exact ⟨fun h => ⟨ha1, hnd, by omega, by omega, ha2, h⟩, fun h => h.2.2.2.2.2⟩ | (simp only [Bool.false_eq_true, false_iff]; rintro ⟨q1, q2, q3, q4, q5, q6⟩; omega)), hw.ch⟩
               )
             ·first
              | (exfalso; omega)
              | (
               refine jy (y_pick_true rfl rfl) ?_
               refine jz ?_
               refine jsk ?_
               refine jsk ?_
               refine jsk ?_
               refine jy (y_pick_false rfl rfl) ?_
               refine jz ?_
               refine jnt ?_
               refine jc_ret ?_
               refine jq_ret1 rfl rfl ?_
               exact fun _ hw => ⟨congrArg (fun b => Ending.returned (Value.bool b)) (by have ha1 : ∀ z ∈ t.ins, inFits z = true := (by have := hi.2.1; rwa [List.take_of_length_le (by omega)] at this); have hnd : (t.ins.map Inp.pt).Nodup := (by have := hi.2.2; rwa [List.take_of_length_le (by omega)] at this); have ha2 : ∀ z ∈ t.outs, ouFits z = true := (by have := hj.2; rwa [List.take_of_length_le (by omega)] at this); rw [Bool.eq_iff_iff, txRight_iff]; first | exact ⟨fun h => ⟨ha1, hnd, by omega, by omega, ha2, h⟩, fun h => h.2.2.2.2.2⟩ | (simp only [Bool.false_eq_true, false_iff]; rintro ⟨q1, q2, q3, q4, q5, q6⟩; omega)), hw.ch⟩
               )
             )
           ·first
            | (exfalso; omega)
            | (
             refine jy (y_pick_true rfl rfl) ?_
             refine jz ?_
             refine jsk ?_
             refine jsk ?_
             refine jsk ?_
             refine jsk ?_
             refine jy (y_pick_false rfl rfl) ?_
             refine jz ?_
             refine jsk ?_
             refine jsk ?_
             refine jsk ?_
             refine jy (y_pick_false rfl rfl) ?_
             refine jz ?_
             refine jnt ?_
             refine jc_ret ?_
             refine jq_ret1 rfl rfl ?_
             exact fun _ hw => ⟨congrArg (fun b => Ending.returned (Value.bool b)) (by have ha1 : ∀ z ∈ t.ins, inFits z = true := (by have := hi.2.1; rwa [List.take_of_length_le (by omega)] at this); have hnd : (t.ins.map Inp.pt).Nodup := (by have := hi.2.2; rwa [List.take_of_length_le (by omega)] at this); have ha2 : ∀ z ∈ t.outs, ouFits z = true := (by have := hj.2; rwa [List.take_of_length_le (by omega)] at this); rw [Bool.eq_iff_iff, txRight_iff]; first | exact ⟨fun h => ⟨ha1, hnd, by omega, by omega, ha2, h⟩, fun h => h.2.2.2.2.2⟩ | (simp only [Bool.false_eq_true, false_iff]; rintro ⟨q1, q2, q3, q4, q5, q6⟩; omega)), hw.ch⟩
             )
           )
         ·first
          | (exfalso; omega)
          | (
           refine jy (y_pick_true rfl rfl) ?_
           refine jz ?_
           refine jsk ?_
           refine jsk ?_
           refine jsk ?_
           refine jsk ?_
           refine jy (y_pick_false rfl rfl) ?_
           refine jz ?_
           refine jsk ?_
           refine jsk ?_
           refine jsk ?_
           refine jsk ?_
           refine jy (y_pick_false rfl rfl) ?_
           refine jz ?_
           refine jsk ?_
           refine jsk ?_
           refine jsk ?_
           refine jy (y_pick_false rfl rfl) ?_
           refine jz ?_
           refine jnt ?_
           refine jc_ret ?_
           refine jq_ret1 rfl rfl ?_
           exact fun _ hw => ⟨congrArg (fun b => Ending.returned (Value.bool b)) (by have ha1 : ∀ z ∈ t.ins, inFits z = true := (by have := hi.2.1; rwa [List.take_of_length_le (by omega)] at this); have hnd : (t.ins.map Inp.pt).Nodup := (by have := hi.2.2; rwa [List.take_of_length_le (by omega)] at this); have ha2 : ∀ z ∈ t.outs, ouFits z = true := (by have := hj.2; rwa [List.take_of_length_le (by omega)] at this); rw [Bool.eq_iff_iff, txRight_iff]; first | exact ⟨fun h => ⟨ha1, hnd, by omega, by omega, ha2, h⟩, fun h => h.2.2.2.2.2⟩ | (simp only [Bool.false_eq_true, false_iff]; rintro ⟨q1, q2, q3, q4, q5, q6⟩; omega)), hw.ch⟩
           )
         )
       ·first
        | (exfalso; omega)
        | (
         refine jz ?_
         refine jsk ?_
         refine jsk ?_
         refine jsk ?_
         refine jsk ?_
         refine jy (y_pick_false rfl rfl) ?_
         refine jz ?_
         refine jsk ?_
         refine jsk ?_
         refine jsk ?_
         refine jsk ?_
         refine jy (y_pick_false rfl rfl) ?_
         refine jz ?_
         refine jsk ?_
         refine jsk ?_
         refine jsk ?_
         refine jsk ?_
         refine jy (y_pick_false rfl rfl) ?_
         refine jz ?_
         refine jsk ?_
         refine jsk ?_
         refine jsk ?_
         refine jy (y_pick_false rfl rfl) ?_
         refine jz ?_
         refine jnt ?_
         refine jc_ret ?_
         refine jq_ret1 rfl rfl ?_
         exact fun _ hw => ⟨congrArg (fun b => Ending.returned (Value.bool b)) (by have ha1 : ∀ z ∈ t.ins, inFits z = true := (by have := hi.2.1; rwa [List.take_of_length_le (by omega)] at this); have hnd : (t.ins.map Inp.pt).Nodup := (by have := hi.2.2; rwa [List.take_of_length_le (by omega)] at this); have ha2 : ∀ z ∈ t.outs, ouFits z = true := (by have := hj.2; rwa [List.take_of_length_le (by omega)] at this); rw [Bool.eq_iff_iff, txRight_iff]; first | exact ⟨fun h => ⟨ha1, hnd, by omega, by omega, ha2, h⟩, fun h => h.2.2.2.2.2⟩ | (simp only [Bool.false_eq_true, false_iff]; rintro ⟨q1, q2, q3, q4, q5, q6⟩; omega)), hw.ch⟩
         )
       )
    )

end Go.Proofs.YtomhcibbalhgkaaGreat
