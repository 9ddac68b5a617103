/- The walks of package coin, part one: what may be, and what is written. Written by program (walk.py) out of a table of contracts and invariants. -/
import Derived.Test.YtomhcibbalhgkaaGreatNp
import Derived.Test.YtomhcibbalhgkaaGreatMcoin
namespace Go.Proofs.YtomhcibbalhgkaaGreat
open Go.RowKit
set_option maxRecDepth 100000
set_option maxHeartbeats 2000000
set_option linter.unusedVariables false
set_option linter.unusedSimpArgs false
theorem ouB1 {o : Oup} {A B C : Prop} (hk : o.kind = 1) (h : A ∧ B ∧ C) : o = ⟨o.kind, o.amount, o.key, ⟨#[]⟩, 0, ⟨#[]⟩, 0, 0, ⟨#[]⟩⟩ ↔ A ∧ B ∧ C ∧ o = ouBare o := by
  rw [show ouBare o = ⟨o.kind, o.amount, o.key, ⟨#[]⟩, 0, ⟨#[]⟩, 0, 0, ⟨#[]⟩⟩ by unfold ouBare; rw [if_neg (by omega), if_neg (by omega)]]
  exact ⟨fun e => ⟨h.1, h.2.1, h.2.2, e⟩, fun e => e.2.2.2⟩
theorem ouB2 {o : Oup} {A B C : Prop} (hk : o.kind = 2) (h : A ∧ B ∧ C) : o = ⟨o.kind, o.amount, o.key, o.gate, o.expiry, o.anchor, o.unit, o.tokens, ⟨#[]⟩⟩ ↔ A ∧ B ∧ C ∧ o = ouBare o := by
  rw [show ouBare o = ⟨o.kind, o.amount, o.key, o.gate, o.expiry, o.anchor, o.unit, o.tokens, ⟨#[]⟩⟩ by unfold ouBare; rw [if_pos hk]]
  exact ⟨fun e => ⟨h.1, h.2.1, h.2.2, e⟩, fun e => e.2.2.2⟩
theorem ouB3 {o : Oup} {A B C : Prop} (hk : o.kind = 3) (h : A ∧ B ∧ C) : o = ⟨o.kind, o.amount, o.key, o.gate, o.expiry, ⟨#[]⟩, 0, 0, o.of⟩ ↔ A ∧ B ∧ C ∧ o = ouBare o := by
  rw [show ouBare o = ⟨o.kind, o.amount, o.key, o.gate, o.expiry, ⟨#[]⟩, 0, 0, o.of⟩ by unfold ouBare; rw [if_neg (by omega), if_pos hk]]
  exact ⟨fun e => ⟨h.1, h.2.1, h.2.2, e⟩, fun e => e.2.2.2⟩

theorem eq_pnt (m : Nat) (x y : Pnt) (w : World) : (Op.equalIn (m + 2) 43 (.agg (Pnt.c x).toArray) (.agg (Pnt.c y).toArray)).run Tryz.prog w = .ok (decide (x = y)) w := by
  rw [run_equalIn_agg _ _ 43 _ _ (by kernel_rfl) (by kernel_rfl), show (Program.fieldsOf Tryz.prog 43).toList = [((fsOf (Tryz.prog.underlying 43)).getD 0 default), ((fsOf (Tryz.prog.underlying 43)).getD 1 default)] from by kernel_rfl]
  refine Eq.trans (eqF_cell (by kernel_rfl) (T := 9) (by kernel_rfl) (off := 0) (by kernel_rfl) rfl rfl (equalIn_str (m) _ _ w) (eqF_cell (by kernel_rfl) (T := 3) (by kernel_rfl) (off := 1) (by kernel_rfl) rfl rfl (equalIn_int (m) _ _ w) eqF_nil)) ?_
  congr 1
  rw [Bool.eq_iff_iff]
  cases x; cases y
  simp
theorem eq_inp (m : Nat) (x y : Inp) (w : World) : (Op.equalIn (m + 3) 97 (.agg (Inp.c x).toArray) (.agg (Inp.c y).toArray)).run Tryz.prog w = .ok (decide (x = y)) w := by
  rw [run_equalIn_agg _ _ 97 _ _ (by kernel_rfl) (by kernel_rfl), show (Program.fieldsOf Tryz.prog 97).toList = [((fsOf (Tryz.prog.underlying 97)).getD 0 default), ((fsOf (Tryz.prog.underlying 97)).getD 1 default), ((fsOf (Tryz.prog.underlying 97)).getD 2 default)] from by kernel_rfl]
  refine Eq.trans (eqF_agg (by kernel_rfl) (T := 43) (by kernel_rfl) (off := 0) (by kernel_rfl) (by repeat constructor) (by repeat constructor) (eq_pnt m x.pt y.pt w) (eqF_cell (by kernel_rfl) (T := 3) (by kernel_rfl) (off := 2) (by kernel_rfl) rfl rfl (equalIn_int (m + 1) _ _ w) (eqF_cell (by kernel_rfl) (T := 9) (by kernel_rfl) (off := 3) (by kernel_rfl) rfl rfl (equalIn_str (m + 1) _ _ w) eqF_nil))) ?_
  congr 1
  rw [Bool.eq_iff_iff]
  cases x; cases y
  simp
theorem eq_oup (m : Nat) (x y : Oup) (w : World) : (Op.equalIn (m + 2) 56 (.agg (Oup.c x).toArray) (.agg (Oup.c y).toArray)).run Tryz.prog w = .ok (decide (x = y)) w := by
  rw [run_equalIn_agg _ _ 56 _ _ (by kernel_rfl) (by kernel_rfl), show (Program.fieldsOf Tryz.prog 56).toList = [((fsOf (Tryz.prog.underlying 56)).getD 0 default), ((fsOf (Tryz.prog.underlying 56)).getD 1 default), ((fsOf (Tryz.prog.underlying 56)).getD 2 default), ((fsOf (Tryz.prog.underlying 56)).getD 3 default), ((fsOf (Tryz.prog.underlying 56)).getD 4 default), ((fsOf (Tryz.prog.underlying 56)).getD 5 default), ((fsOf (Tryz.prog.underlying 56)).getD 6 default), ((fsOf (Tryz.prog.underlying 56)).getD 7 default), ((fsOf (Tryz.prog.underlying 56)).getD 8 default)] from by kernel_rfl]
  refine Eq.trans (eqF_cell (by kernel_rfl) (T := 3) (by kernel_rfl) (off := 0) (by kernel_rfl) rfl rfl (equalIn_int (m) _ _ w) (eqF_cell (by kernel_rfl) (T := 48) (by kernel_rfl) (off := 1) (by kernel_rfl) rfl rfl (equalIn_int (m) _ _ w) (eqF_cell (by kernel_rfl) (T := 9) (by kernel_rfl) (off := 2) (by kernel_rfl) rfl rfl (equalIn_str (m) _ _ w) (eqF_cell (by kernel_rfl) (T := 9) (by kernel_rfl) (off := 3) (by kernel_rfl) rfl rfl (equalIn_str (m) _ _ w) (eqF_cell (by kernel_rfl) (T := 3) (by kernel_rfl) (off := 4) (by kernel_rfl) rfl rfl (equalIn_int (m) _ _ w) (eqF_cell (by kernel_rfl) (T := 9) (by kernel_rfl) (off := 5) (by kernel_rfl) rfl rfl (equalIn_str (m) _ _ w) (eqF_cell (by kernel_rfl) (T := 48) (by kernel_rfl) (off := 6) (by kernel_rfl) rfl rfl (equalIn_int (m) _ _ w) (eqF_cell (by kernel_rfl) (T := 3) (by kernel_rfl) (off := 7) (by kernel_rfl) rfl rfl (equalIn_int (m) _ _ w) (eqF_cell (by kernel_rfl) (T := 9) (by kernel_rfl) (off := 8) (by kernel_rfl) rfl rfl (equalIn_str (m) _ _ w) eqF_nil))))))))) ?_
  congr 1
  rw [Bool.eq_iff_iff]
  cases x; cases y
  simp
theorem chash16_any (s : ByteArray) (w : World) :
  Calls Tryz.prog 88 #[.string s] w fun e w' => e = .returned (.bool (decide (s.size = 16))) ∧ Ch [] w w' := by
 refine calls_of (n := 6) (E := [(0, .string s)]) (W := Hp w [] []) Tryz.func88 rfl rfl (Nat.le_of_ble_eq_true rfl) rfl (Hp.nil _ _) ?_
 refine jsr ?_
 refine jz ?_
 refine jnt ?_
 refine jsr ?_
 refine jz ?_
 refine jy (y_len_str rfl) ?_
 refine jy (y_eql rfl rfl) ?_
 refine jl_as (u := .bool (decide (s.size = 16))) (congrArg Value.bool (by rw [decide_eq_decide]; omega)) ?_
 refine jz ?_
 refine jnt ?_
 refine jc_ret ?_
 refine jq_ret1 rfl rfl ?_
 exact fun _ hw => ⟨rfl, hw.ch⟩

theorem cwithin_any (n a b : Int) (w : World) :
  Calls Tryz.prog 57 #[.int .i64 n, .int .i64 a, .int .i64 b] w fun e w' => e = .returned (.bool (decide (a ≤ n ∧ n ≤ b))) ∧ Ch [] w w' := by
 refine calls_of (n := 15) (E := [(0, .int .i64 n), (1, .int .i64 a), (2, .int .i64 b)]) (W := Hp w [] []) Tryz.func57 rfl rfl (Nat.le_of_ble_eq_true rfl) rfl (Hp.nil _ _) ?_
 refine jsr ?_
 refine jz ?_
 refine jnt ?_
 refine jsr ?_
 refine jz ?_
 refine jz ?_
 refine jy (y_geq rfl rfl) ?_
 refine jl_prop (fun h9 => ?_) (fun h9 => ?_)
 ·first
  | (exfalso; omega)
  | (
   refine jz ?_
   refine jz ?_
   refine jz ?_
   refine jy (y_leq rfl rfl) ?_
   refine jy (y_pick_true rfl rfl) ?_
   refine jz ?_
   refine jnt ?_
   refine jc_ret ?_
   refine jq_ret1 rfl rfl ?_
   exact fun _ hw => ⟨congrArg (fun b => Ending.returned (Value.bool b)) (by rw [Bool.eq_iff_iff]; simp only [decide_eq_true_eq, Bool.false_eq_true, false_iff]; omega), hw.ch⟩
   )
 ·first
  | (exfalso; omega)
  | (
   refine jz ?_
   refine jsk ?_
   refine jsk ?_
   refine jsk ?_
   refine jy (y_pick_false rfl rfl) ?_
   refine jz ?_
   refine jnt ?_
   refine jc_ret ?_
   refine jq_ret1 rfl rfl ?_
   exact fun _ hw => ⟨congrArg (fun b => Ending.returned (Value.bool b)) (by rw [Bool.eq_iff_iff]; simp only [decide_eq_true_eq, Bool.false_eq_true, false_iff]; omega), hw.ch⟩
   )

theorem cfits_any (o : Oup) (w : World) :
  Calls Tryz.prog 56 #[.agg (Oup.c o).toArray] w fun e w' => e = .returned (.bool (ouFits o)) ∧ Ch [] w w' := by
 refine calls_of (n := 83) (E := [(0, .agg (Oup.c o).toArray)]) (W := Hp w [] []) Tryz.func56 rfl rfl (Nat.le_of_ble_eq_true rfl) rfl (Hp.nil _ _) ?_
 refine jsr ?_
 refine jl_m rfl (by decide) rfl (m_box rfl rfl) (fun b1 => ?_)
 refine jz ?_
 refine jnt ?_
 refine jsr ?_
 refine jz ?_
 refine jz ?_
 refine jz ?_
 refine jz ?_
 refine jz ?_
 refine jz ?_
 refine jy (y_build (Built.cell rfl rfl rfl (by repeat constructor) (Built.cell rfl rfl rfl (by repeat constructor) (Built.cell rfl rfl rfl (by repeat constructor) Built.nil)))) ?_
 refine jl_m rfl (by decide) rfl (m_alloc) (fun b3 => ?_)
 refine jst ?_
 refine jnt ?_
 refine jsr ?_
 refine jz ?_
 refine jz ?_
 refine jy (y_gtr rfl rfl) ?_
 refine jl_prop (fun h14 => ?_) (fun h14 => ?_)
 ·first
  | (exfalso; omega)
  | (
   refine jz ?_
   refine jz ?_
   refine jz ?_
   refine jpc (goes_func rfl) (fun w1 hw1 => chash16_any _ w1) ?_
   refine jl_bool (fun h18 => ?_) (fun h18 => ?_)
   ·skip
    refine jy (y_pick_true rfl rfl) ?_
    refine jz ?_
    refine jnt ?_
    refine jc_seq ?_
    refine jsr ?_
    refine jz ?_
    refine jz ?_
    refine jnt ?_
    refine jc_block ?_
    refine jc_seq ?_
    refine jc_block ?_
    refine jc_seq ?_
    refine jc_block ?_
    refine jc_seq ?_
    refine jc_block ?_
    refine jc_seq ?_
    refine jc_seq ?_
    refine jsr ?_
    refine jy (y_eql rfl rfl) ?_
    refine jl_prop (fun h23 => ?_) (fun h23 => ?_)
    ·first
     | (exfalso; omega)
     | (
      refine jz ?_
      refine jnt ?_
      refine jc_true rfl ?_
      refine jc_exit ?_
      refine jq_then_exit ?_
      refine jq_then_exit ?_
      refine jq_hit ?_
      refine jq_then ?_
      refine jc_seq ?_
      refine jc_schedC (Hp w [] [.cells b1 (Oup.c o)]) 11 [(0, true), (1, true), (2, true), (3, true), (4, true), (5, true), (6, true), (7, false), (8, true), (9, false), (10, true)] rfl (by kernel_rfl) (fun _ _ _ _ h => h) (fun _ h => (h.part (.cons (by first | exact del0 | exact del1) .nil)).drew) (fun _ h => h.drew) ?_
      simp only [pickO, nthO, List.drop_succ_cons, List.drop_zero]
      refine jkz ?_
      refine jkz ?_
      refine jkz ?_
      refine jkz ?_
      refine jkz ?_
      refine jkz ?_
      refine jkz ?_
      refine js_w rfl rfl (w_store_lit rfl rfl rfl (by first | exact rep0 | exact rep1 | exact rep2 | exact rep3 | exact rep4) (by repeat constructor)) (by intro _ h; exact h.part (.cons (by first | exact del0 | exact del1) .nil)) ?_
      refine jkz ?_
      refine js_w rfl rfl (w_store_lit rfl rfl rfl (by first | exact rep0 | exact rep1 | exact rep2 | exact rep3 | exact rep4) (by repeat constructor)) (by intro _ h; exact h.part (.cons (by first | exact del0 | exact del1) .nil)) ?_
      refine jkz ?_
      refine js_nil ?_
      refine jst ?_
      refine jnt ?_
      refine jc_region ?_
      refine jz ?_
      refine jz ?_
      refine jz ?_
      refine jz ?_
      refine jpc (goes_func rfl) (fun w1 hw1 => chash16_any _ w1) ?_
      refine jl_bool (fun h41 => ?_) (fun h41 => ?_)
      ·skip
       refine jy (y_pick_true rfl rfl) ?_
       refine jz ?_
       refine jz ?_
       refine jz ?_
       refine jpc (goes_func rfl) (fun w1 hw1 => cwithin_any _ _ _ w1) ?_
       refine jl_bool (fun h46 => ?_) (fun h46 => ?_)
       ·skip
        refine jy (y_pick_true rfl rfl) ?_
        refine jz ?_
        refine jl_nil ?_
        refine jq_block ?_
        refine jq_then ?_
        refine jc_seq ?_
        refine jc_schedC (Hp w [] [.cells b1 (Oup.c o)]) 7 [(0, true), (1, true), (2, true), (3, true), (4, true), (5, false), (6, true)] rfl (by kernel_rfl) (fun _ _ _ _ h => h) (fun _ h => (h.part (.cons (by first | exact del0 | exact del1) .nil)).drew) (fun _ h => h.drew) ?_
        simp only [pickO, nthO, List.drop_succ_cons, List.drop_zero]
        refine jkz ?_
        refine jkz ?_
        refine jkz ?_
        refine jkz ?_
        refine jkz ?_
        refine js_w rfl rfl (w_store_lit rfl rfl rfl (by first | exact rep0 | exact rep1 | exact rep2 | exact rep3 | exact rep4) (by repeat constructor)) (by intro _ h; exact h.part (.cons (by first | exact del0 | exact del1) .nil)) ?_
        refine jkz ?_
        refine js_nil ?_
        refine jst ?_
        refine jnt ?_
        refine jsr ?_
        refine jz ?_
        refine jz ?_
        refine jz ?_
        refine jz ?_
        refine jpc (goes_func rfl) (fun w1 hw1 => chash16_any _ w1) ?_
        refine jl_bool (fun h58 => ?_) (fun h58 => ?_)
        ·skip
         refine jy (y_pick_true rfl rfl) ?_
         refine jz ?_
         refine jz ?_
         refine jz ?_
         refine jpc (goes_func rfl) (fun w1 hw1 => cwithin_any _ _ _ w1) ?_
         refine jl_bool (fun h63 => ?_) (fun h63 => ?_)
         ·skip
          refine jy (y_pick_true rfl rfl) ?_
          refine jz ?_
          refine jnt ?_
          refine jsr ?_
          refine jz ?_
          refine jz ?_
          refine jy (y_eql rfl rfl) ?_
          refine jl_prop (fun h67 => ?_) (fun h67 => ?_)
          ·first
           | (exfalso; omega)
           | (
            refine jnt ?_
            refine jc_true rfl ?_
            refine jsr ?_
            refine jz ?_
            refine jz ?_
            refine jz ?_
            refine jst ?_
            refine jnt ?_
            refine jc_region ?_
            refine jz ?_
            refine jz ?_
            refine jz ?_
            refine jz ?_
            refine jpc (goes_func rfl) (fun w1 hw1 => chash16_any _ w1) ?_
            refine jl_bool (fun h75 => ?_) (fun h75 => ?_)
            ·skip
             refine jy (y_pick_true rfl rfl) ?_
             refine jz ?_
             refine jl_nil ?_
             refine jq_block ?_
             refine jq_then ?_
             refine jc_seq ?_
             refine jsr ?_
             refine jz ?_
             refine jz ?_
             refine jz ?_
             refine jz ?_
             first | refine jy (y_eql_agg rfl rfl (by kernel_rfl) (fun w => eq_oup 9998 o ⟨o.kind, o.amount, o.key, ⟨#[]⟩, 0, ⟨#[]⟩, 0, 0, ⟨#[]⟩⟩ w)) ?_ | refine jy (y_eql_agg rfl rfl (by kernel_rfl) (fun w => eq_oup 9998 o ⟨o.kind, o.amount, o.key, o.gate, o.expiry, o.anchor, o.unit, o.tokens, ⟨#[]⟩⟩ w)) ?_ | refine jy (y_eql_agg rfl rfl (by kernel_rfl) (fun w => eq_oup 9998 o ⟨o.kind, o.amount, o.key, o.gate, o.expiry, ⟨#[]⟩, 0, 0, o.of⟩ w)) ?_
             refine jy (y_pick_true rfl rfl) ?_
             refine jz ?_
             refine jnt ?_
             refine jc_ret ?_
             refine jq_then_ret ?_
             refine jq_block_ret ?_
             refine jq_then_ret ?_
             refine jq_ret1 rfl rfl ?_
             exact fun _ hw => ⟨congrArg (fun b => Ending.returned (Value.bool b)) (by rw [Bool.eq_iff_iff, ouFits_iff]; unfold ouKind; simp only [decide_eq_true_eq, decide_eq_false_iff_not, Bool.false_eq_true, false_iff] at *; first | exact ouB1 (by omega) (by omega) | exact ouB2 (by omega) (by omega) | exact ouB3 (by omega) (by omega) | (rintro ⟨a1, a2, a3, a4⟩; omega)), hw.ch⟩
            ·skip
             refine jy (y_pick_true rfl rfl) ?_
             refine jz ?_
             refine jl_nil ?_
             refine jq_block ?_
             refine jq_then ?_
             refine jc_seq ?_
             refine jsr ?_
             refine jz ?_
             refine jz ?_
             refine jsk ?_
             refine jsk ?_
             refine jsk ?_
             refine jy (y_pick_false rfl rfl) ?_
             refine jz ?_
             refine jnt ?_
             refine jc_ret ?_
             refine jq_then_ret ?_
             refine jq_block_ret ?_
             refine jq_then_ret ?_
             refine jq_ret1 rfl rfl ?_
             exact fun _ hw => ⟨congrArg (fun b => Ending.returned (Value.bool b)) (by rw [Bool.eq_iff_iff, ouFits_iff]; unfold ouKind; simp only [decide_eq_true_eq, decide_eq_false_iff_not, Bool.false_eq_true, false_iff] at *; first | exact ouB1 (by omega) (by omega) | exact ouB2 (by omega) (by omega) | exact ouB3 (by omega) (by omega) | (rintro ⟨a1, a2, a3, a4⟩; omega)), hw.ch⟩
            )
          ·first
           | (exfalso; omega)
           | (
            refine jnt ?_
            refine jc_false rfl ?_
            refine jc_skip ?_
            refine jq_block ?_
            refine jq_then ?_
            refine jc_seq ?_
            refine jsr ?_
            refine jz ?_
            refine jz ?_
            refine jz ?_
            refine jz ?_
            first | refine jy (y_eql_agg rfl rfl (by kernel_rfl) (fun w => eq_oup 9998 o ⟨o.kind, o.amount, o.key, ⟨#[]⟩, 0, ⟨#[]⟩, 0, 0, ⟨#[]⟩⟩ w)) ?_ | refine jy (y_eql_agg rfl rfl (by kernel_rfl) (fun w => eq_oup 9998 o ⟨o.kind, o.amount, o.key, o.gate, o.expiry, o.anchor, o.unit, o.tokens, ⟨#[]⟩⟩ w)) ?_ | refine jy (y_eql_agg rfl rfl (by kernel_rfl) (fun w => eq_oup 9998 o ⟨o.kind, o.amount, o.key, o.gate, o.expiry, ⟨#[]⟩, 0, 0, o.of⟩ w)) ?_
            refine jy (y_pick_true rfl rfl) ?_
            refine jz ?_
            refine jnt ?_
            refine jc_ret ?_
            refine jq_then_ret ?_
            refine jq_block_ret ?_
            refine jq_then_ret ?_
            refine jq_ret1 rfl rfl ?_
            exact fun _ hw => ⟨congrArg (fun b => Ending.returned (Value.bool b)) (by rw [Bool.eq_iff_iff, ouFits_iff]; unfold ouKind; simp only [decide_eq_true_eq, decide_eq_false_iff_not, Bool.false_eq_true, false_iff] at *; first | exact ouB1 (by omega) (by omega) | exact ouB2 (by omega) (by omega) | exact ouB3 (by omega) (by omega) | (rintro ⟨a1, a2, a3, a4⟩; omega)), hw.ch⟩
            )
         ·skip
          refine jy (y_pick_true rfl rfl) ?_
          refine jz ?_
          refine jnt ?_
          refine jsr ?_
          refine jz ?_
          refine jz ?_
          refine jy (y_eql rfl rfl) ?_
          refine jl_prop (fun h67 => ?_) (fun h67 => ?_)
          ·first
           | (exfalso; omega)
           | (
            refine jnt ?_
            refine jc_true rfl ?_
            refine jsr ?_
            refine jz ?_
            refine jz ?_
            refine jz ?_
            refine jst ?_
            refine jnt ?_
            refine jc_region ?_
            refine jz ?_
            refine jz ?_
            refine jsk ?_
            refine jsk ?_
            refine jsk ?_
            refine jy (y_pick_false rfl rfl) ?_
            refine jz ?_
            refine jl_nil ?_
            refine jq_block ?_
            refine jq_then ?_
            refine jc_seq ?_
            refine jsr ?_
            refine jz ?_
            refine jz ?_
            refine jsk ?_
            refine jsk ?_
            refine jsk ?_
            refine jy (y_pick_false rfl rfl) ?_
            refine jz ?_
            refine jnt ?_
            refine jc_ret ?_
            refine jq_then_ret ?_
            refine jq_block_ret ?_
            refine jq_then_ret ?_
            refine jq_ret1 rfl rfl ?_
            exact fun _ hw => ⟨congrArg (fun b => Ending.returned (Value.bool b)) (by rw [Bool.eq_iff_iff, ouFits_iff]; unfold ouKind; simp only [decide_eq_true_eq, decide_eq_false_iff_not, Bool.false_eq_true, false_iff] at *; first | exact ouB1 (by omega) (by omega) | exact ouB2 (by omega) (by omega) | exact ouB3 (by omega) (by omega) | (rintro ⟨a1, a2, a3, a4⟩; omega)), hw.ch⟩
            )
          ·first
           | (exfalso; omega)
           | (
            refine jnt ?_
            refine jc_false rfl ?_
            refine jc_skip ?_
            refine jq_block ?_
            refine jq_then ?_
            refine jc_seq ?_
            refine jsr ?_
            refine jz ?_
            refine jz ?_
            refine jsk ?_
            refine jsk ?_
            refine jsk ?_
            refine jy (y_pick_false rfl rfl) ?_
            refine jz ?_
            refine jnt ?_
            refine jc_ret ?_
            refine jq_then_ret ?_
            refine jq_block_ret ?_
            refine jq_then_ret ?_
            refine jq_ret1 rfl rfl ?_
            exact fun _ hw => ⟨congrArg (fun b => Ending.returned (Value.bool b)) (by rw [Bool.eq_iff_iff, ouFits_iff]; unfold ouKind; simp only [decide_eq_true_eq, decide_eq_false_iff_not, Bool.false_eq_true, false_iff] at *; first | exact ouB1 (by omega) (by omega) | exact ouB2 (by omega) (by omega) | exact ouB3 (by omega) (by omega) | (rintro ⟨a1, a2, a3, a4⟩; omega)), hw.ch⟩
            )
        ·skip
         refine jy (y_pick_true rfl rfl) ?_
         refine jz ?_
         refine jsk ?_
         refine jsk ?_
         refine jsk ?_
         refine jy (y_pick_false rfl rfl) ?_
         refine jz ?_
         refine jnt ?_
         refine jsr ?_
         refine jz ?_
         refine jz ?_
         refine jy (y_eql rfl rfl) ?_
         refine jl_prop (fun h67 => ?_) (fun h67 => ?_)
         ·first
          | (exfalso; omega)
          | (
           refine jnt ?_
           refine jc_true rfl ?_
           refine jsr ?_
           refine jz ?_
           refine jz ?_
           refine jz ?_
           refine jst ?_
           refine jnt ?_
           refine jc_region ?_
           refine jz ?_
           refine jz ?_
           refine jsk ?_
           refine jsk ?_
           refine jsk ?_
           refine jy (y_pick_false rfl rfl) ?_
           refine jz ?_
           refine jl_nil ?_
           refine jq_block ?_
           refine jq_then ?_
           refine jc_seq ?_
           refine jsr ?_
           refine jz ?_
           refine jz ?_
           refine jsk ?_
           refine jsk ?_
           refine jsk ?_
           refine jy (y_pick_false rfl rfl) ?_
           refine jz ?_
           refine jnt ?_
           refine jc_ret ?_
           refine jq_then_ret ?_
           refine jq_block_ret ?_
           refine jq_then_ret ?_
           refine jq_ret1 rfl rfl ?_
           exact fun _ hw => ⟨congrArg (fun b => Ending.returned (Value.bool b)) (by rw [Bool.eq_iff_iff, ouFits_iff]; unfold ouKind; simp only [decide_eq_true_eq, decide_eq_false_iff_not, Bool.false_eq_true, false_iff] at *; first | exact ouB1 (by omega) (by omega) | exact ouB2 (by omega) (by omega) | exact ouB3 (by omega) (by omega) | (rintro ⟨a1, a2, a3, a4⟩; omega)), hw.ch⟩
           )
         ·first
          | (exfalso; omega)
          | (
           refine jnt ?_
           refine jc_false rfl ?_
           refine jc_skip ?_
           refine jq_block ?_
           refine jq_then ?_
           refine jc_seq ?_
           refine jsr ?_
           refine jz ?_
           refine jz ?_
           refine jsk ?_
           refine jsk ?_
           refine jsk ?_
           refine jy (y_pick_false rfl rfl) ?_
           refine jz ?_
           refine jnt ?_
           refine jc_ret ?_
           refine jq_then_ret ?_
           refine jq_block_ret ?_
           refine jq_then_ret ?_
           refine jq_ret1 rfl rfl ?_
           exact fun _ hw => ⟨congrArg (fun b => Ending.returned (Value.bool b)) (by rw [Bool.eq_iff_iff, ouFits_iff]; unfold ouKind; simp only [decide_eq_true_eq, decide_eq_false_iff_not, Bool.false_eq_true, false_iff] at *; first | exact ouB1 (by omega) (by omega) | exact ouB2 (by omega) (by omega) | exact ouB3 (by omega) (by omega) | (rintro ⟨a1, a2, a3, a4⟩; omega)), hw.ch⟩
           )
       ·skip
        refine jy (y_pick_true rfl rfl) ?_
        refine jz ?_
        refine jl_nil ?_
        refine jq_block ?_
        refine jq_then ?_
        refine jc_seq ?_
        refine jc_schedC (Hp w [] [.cells b1 (Oup.c o)]) 7 [(0, true), (1, true), (2, true), (3, true), (4, true), (5, false), (6, true)] rfl (by kernel_rfl) (fun _ _ _ _ h => h) (fun _ h => (h.part (.cons (by first | exact del0 | exact del1) .nil)).drew) (fun _ h => h.drew) ?_
        simp only [pickO, nthO, List.drop_succ_cons, List.drop_zero]
        refine jkz ?_
        refine jkz ?_
        refine jkz ?_
        refine jkz ?_
        refine jkz ?_
        refine js_w rfl rfl (w_store_lit rfl rfl rfl (by first | exact rep0 | exact rep1 | exact rep2 | exact rep3 | exact rep4) (by repeat constructor)) (by intro _ h; exact h.part (.cons (by first | exact del0 | exact del1) .nil)) ?_
        refine jkz ?_
        refine js_nil ?_
        refine jst ?_
        refine jnt ?_
        refine jsr ?_
        refine jz ?_
        refine jz ?_
        refine jsk ?_
        refine jsk ?_
        refine jsk ?_
        refine jy (y_pick_false rfl rfl) ?_
        refine jz ?_
        refine jsk ?_
        refine jsk ?_
        refine jsk ?_
        refine jy (y_pick_false rfl rfl) ?_
        refine jz ?_
        refine jnt ?_
        refine jsr ?_
        refine jz ?_
        refine jz ?_
        refine jy (y_eql rfl rfl) ?_
        refine jl_prop (fun h67 => ?_) (fun h67 => ?_)
        ·first
         | (exfalso; omega)
         | (
          refine jnt ?_
          refine jc_true rfl ?_
          refine jsr ?_
          refine jz ?_
          refine jz ?_
          refine jz ?_
          refine jst ?_
          refine jnt ?_
          refine jc_region ?_
          refine jz ?_
          refine jz ?_
          refine jsk ?_
          refine jsk ?_
          refine jsk ?_
          refine jy (y_pick_false rfl rfl) ?_
          refine jz ?_
          refine jl_nil ?_
          refine jq_block ?_
          refine jq_then ?_
          refine jc_seq ?_
          refine jsr ?_
          refine jz ?_
          refine jz ?_
          refine jsk ?_
          refine jsk ?_
          refine jsk ?_
          refine jy (y_pick_false rfl rfl) ?_
          refine jz ?_
          refine jnt ?_
          refine jc_ret ?_
          refine jq_then_ret ?_
          refine jq_block_ret ?_
          refine jq_then_ret ?_
          refine jq_ret1 rfl rfl ?_
          exact fun _ hw => ⟨congrArg (fun b => Ending.returned (Value.bool b)) (by rw [Bool.eq_iff_iff, ouFits_iff]; unfold ouKind; simp only [decide_eq_true_eq, decide_eq_false_iff_not, Bool.false_eq_true, false_iff] at *; first | exact ouB1 (by omega) (by omega) | exact ouB2 (by omega) (by omega) | exact ouB3 (by omega) (by omega) | (rintro ⟨a1, a2, a3, a4⟩; omega)), hw.ch⟩
          )
        ·first
         | (exfalso; omega)
         | (
          refine jnt ?_
          refine jc_false rfl ?_
          refine jc_skip ?_
          refine jq_block ?_
          refine jq_then ?_
          refine jc_seq ?_
          refine jsr ?_
          refine jz ?_
          refine jz ?_
          refine jsk ?_
          refine jsk ?_
          refine jsk ?_
          refine jy (y_pick_false rfl rfl) ?_
          refine jz ?_
          refine jnt ?_
          refine jc_ret ?_
          refine jq_then_ret ?_
          refine jq_block_ret ?_
          refine jq_then_ret ?_
          refine jq_ret1 rfl rfl ?_
          exact fun _ hw => ⟨congrArg (fun b => Ending.returned (Value.bool b)) (by rw [Bool.eq_iff_iff, ouFits_iff]; unfold ouKind; simp only [decide_eq_true_eq, decide_eq_false_iff_not, Bool.false_eq_true, false_iff] at *; first | exact ouB1 (by omega) (by omega) | exact ouB2 (by omega) (by omega) | exact ouB3 (by omega) (by omega) | (rintro ⟨a1, a2, a3, a4⟩; omega)), hw.ch⟩
          )
      ·skip
       refine jy (y_pick_true rfl rfl) ?_
       refine jz ?_
       refine jsk ?_
       refine jsk ?_
       refine jsk ?_
       refine jy (y_pick_false rfl rfl) ?_
       refine jz ?_
       refine jl_nil ?_
       refine jq_block ?_
       refine jq_then ?_
       refine jc_seq ?_
       refine jc_schedC (Hp w [] [.cells b1 (Oup.c o)]) 7 [(0, true), (1, true), (2, true), (3, true), (4, true), (5, false), (6, true)] rfl (by kernel_rfl) (fun _ _ _ _ h => h) (fun _ h => (h.part (.cons (by first | exact del0 | exact del1) .nil)).drew) (fun _ h => h.drew) ?_
       simp only [pickO, nthO, List.drop_succ_cons, List.drop_zero]
       refine jkz ?_
       refine jkz ?_
       refine jkz ?_
       refine jkz ?_
       refine jkz ?_
       refine js_w rfl rfl (w_store_lit rfl rfl rfl (by first | exact rep0 | exact rep1 | exact rep2 | exact rep3 | exact rep4) (by repeat constructor)) (by intro _ h; exact h.part (.cons (by first | exact del0 | exact del1) .nil)) ?_
       refine jkz ?_
       refine js_nil ?_
       refine jst ?_
       refine jnt ?_
       refine jsr ?_
       refine jz ?_
       refine jz ?_
       refine jsk ?_
       refine jsk ?_
       refine jsk ?_
       refine jy (y_pick_false rfl rfl) ?_
       refine jz ?_
       refine jsk ?_
       refine jsk ?_
       refine jsk ?_
       refine jy (y_pick_false rfl rfl) ?_
       refine jz ?_
       refine jnt ?_
       refine jsr ?_
       refine jz ?_
       refine jz ?_
       refine jy (y_eql rfl rfl) ?_
       refine jl_prop (fun h67 => ?_) (fun h67 => ?_)
       ·first
        | (exfalso; omega)
        | (
         refine jnt ?_
         refine jc_true rfl ?_
         refine jsr ?_
         refine jz ?_
         refine jz ?_
         refine jz ?_
         refine jst ?_
         refine jnt ?_
         refine jc_region ?_
         refine jz ?_
         refine jz ?_
         refine jsk ?_
         refine jsk ?_
         refine jsk ?_
         refine jy (y_pick_false rfl rfl) ?_
         refine jz ?_
         refine jl_nil ?_
         refine jq_block ?_
         refine jq_then ?_
         refine jc_seq ?_
         refine jsr ?_
         refine jz ?_
         refine jz ?_
         refine jsk ?_
         refine jsk ?_
         refine jsk ?_
         refine jy (y_pick_false rfl rfl) ?_
         refine jz ?_
         refine jnt ?_
         refine jc_ret ?_
         refine jq_then_ret ?_
         refine jq_block_ret ?_
         refine jq_then_ret ?_
         refine jq_ret1 rfl rfl ?_
         exact fun _ hw => ⟨congrArg (fun b => Ending.returned (Value.bool b)) (by rw [Bool.eq_iff_iff, ouFits_iff]; unfold ouKind; simp only [decide_eq_true_eq, decide_eq_false_iff_not, Bool.false_eq_true, false_iff] at *; first | exact ouB1 (by omega) (by omega) | exact ouB2 (by omega) (by omega) | exact ouB3 (by omega) (by omega) | (rintro ⟨a1, a2, a3, a4⟩; omega)), hw.ch⟩
         )
       ·first
        | (exfalso; omega)
        | (
         refine jnt ?_
         refine jc_false rfl ?_
         refine jc_skip ?_
         refine jq_block ?_
         refine jq_then ?_
         refine jc_seq ?_
         refine jsr ?_
         refine jz ?_
         refine jz ?_
         refine jsk ?_
         refine jsk ?_
         refine jsk ?_
         refine jy (y_pick_false rfl rfl) ?_
         refine jz ?_
         refine jnt ?_
         refine jc_ret ?_
         refine jq_then_ret ?_
         refine jq_block_ret ?_
         refine jq_then_ret ?_
         refine jq_ret1 rfl rfl ?_
         exact fun _ hw => ⟨congrArg (fun b => Ending.returned (Value.bool b)) (by rw [Bool.eq_iff_iff, ouFits_iff]; unfold ouKind; simp only [decide_eq_true_eq, decide_eq_false_iff_not, Bool.false_eq_true, false_iff] at *; first | exact ouB1 (by omega) (by omega) | exact ouB2 (by omega) (by omega) | exact ouB3 (by omega) (by omega) | (rintro ⟨a1, a2, a3, a4⟩; omega)), hw.ch⟩
         )
      )
    ·first
     | (exfalso; omega)
     | (
      refine jz ?_
      refine jnt ?_
      refine jc_false rfl ?_
      refine jc_skip ?_
      refine jq_then ?_
      refine jc_seq ?_
      refine jsr ?_
      refine jy (y_eql rfl rfl) ?_
      refine jl_prop (fun h25 => ?_) (fun h25 => ?_)
      ·first
       | (exfalso; omega)
       | (
        refine jz ?_
        refine jnt ?_
        refine jc_true rfl ?_
        refine jc_exit ?_
        refine jq_then_exit ?_
        refine jq_then_exit ?_
        refine jq_miss rfl ?_
        refine jq_then_exit ?_
        refine jq_hit ?_
        refine jq_then ?_
        refine jc_seq ?_
        refine jc_schedC (Hp w [] [.cells b1 (Oup.c o)]) 7 [(0, true), (1, true), (2, true), (3, true), (4, true), (5, false), (6, true)] rfl (by kernel_rfl) (fun _ _ _ _ h => h) (fun _ h => (h.part (.cons (by first | exact del0 | exact del1) .nil)).drew) (fun _ h => h.drew) ?_
        simp only [pickO, nthO, List.drop_succ_cons, List.drop_zero]
        refine jkz ?_
        refine jkz ?_
        refine jkz ?_
        refine jkz ?_
        refine jkz ?_
        refine js_w rfl rfl (w_store_lit rfl rfl rfl (by first | exact rep0 | exact rep1 | exact rep2 | exact rep3 | exact rep4) (by repeat constructor)) (by intro _ h; exact h.part (.cons (by first | exact del0 | exact del1) .nil)) ?_
        refine jkz ?_
        refine js_nil ?_
        refine jst ?_
        refine jnt ?_
        refine jsr ?_
        refine jz ?_
        refine jz ?_
        refine jz ?_
        refine jz ?_
        refine jpc (goes_func rfl) (fun w1 hw1 => chash16_any _ w1) ?_
        refine jl_bool (fun h58 => ?_) (fun h58 => ?_)
        ·skip
         refine jy (y_pick_true rfl rfl) ?_
         refine jz ?_
         refine jz ?_
         refine jz ?_
         refine jpc (goes_func rfl) (fun w1 hw1 => cwithin_any _ _ _ w1) ?_
         refine jl_bool (fun h63 => ?_) (fun h63 => ?_)
         ·skip
          refine jy (y_pick_true rfl rfl) ?_
          refine jz ?_
          refine jnt ?_
          refine jsr ?_
          refine jz ?_
          refine jz ?_
          refine jy (y_eql rfl rfl) ?_
          refine jl_prop (fun h67 => ?_) (fun h67 => ?_)
          ·first
           | (exfalso; omega)
           | (
            refine jnt ?_
            refine jc_true rfl ?_
            refine jsr ?_
            refine jz ?_
            refine jz ?_
            refine jz ?_
            refine jst ?_
            refine jnt ?_
            refine jc_region ?_
            refine jz ?_
            refine jz ?_
            refine jz ?_
            refine jz ?_
            refine jpc (goes_func rfl) (fun w1 hw1 => chash16_any _ w1) ?_
            refine jl_bool (fun h75 => ?_) (fun h75 => ?_)
            ·skip
             refine jy (y_pick_true rfl rfl) ?_
             refine jz ?_
             refine jl_nil ?_
             refine jq_block ?_
             refine jq_then ?_
             refine jc_seq ?_
             refine jsr ?_
             refine jz ?_
             refine jz ?_
             refine jz ?_
             refine jz ?_
             first | refine jy (y_eql_agg rfl rfl (by kernel_rfl) (fun w => eq_oup 9998 o ⟨o.kind, o.amount, o.key, ⟨#[]⟩, 0, ⟨#[]⟩, 0, 0, ⟨#[]⟩⟩ w)) ?_ | refine jy (y_eql_agg rfl rfl (by kernel_rfl) (fun w => eq_oup 9998 o ⟨o.kind, o.amount, o.key, o.gate, o.expiry, o.anchor, o.unit, o.tokens, ⟨#[]⟩⟩ w)) ?_ | refine jy (y_eql_agg rfl rfl (by kernel_rfl) (fun w => eq_oup 9998 o ⟨o.kind, o.amount, o.key, o.gate, o.expiry, ⟨#[]⟩, 0, 0, o.of⟩ w)) ?_
             refine jy (y_pick_true rfl rfl) ?_
             refine jz ?_
             refine jnt ?_
             refine jc_ret ?_
             refine jq_then_ret ?_
             refine jq_block_ret ?_
             refine jq_then_ret ?_
             refine jq_ret1 rfl rfl ?_
             exact fun _ hw => ⟨congrArg (fun b => Ending.returned (Value.bool b)) (by rw [Bool.eq_iff_iff, ouFits_iff]; unfold ouKind; simp only [decide_eq_true_eq, decide_eq_false_iff_not, Bool.false_eq_true, false_iff] at *; first | exact ouB1 (by omega) (by omega) | exact ouB2 (by omega) (by omega) | exact ouB3 (by omega) (by omega) | (rintro ⟨a1, a2, a3, a4⟩; omega)), hw.ch⟩
            ·skip
             refine jy (y_pick_true rfl rfl) ?_
             refine jz ?_
             refine jl_nil ?_
             refine jq_block ?_
             refine jq_then ?_
             refine jc_seq ?_
             refine jsr ?_
             refine jz ?_
             refine jz ?_
             refine jsk ?_
             refine jsk ?_
             refine jsk ?_
             refine jy (y_pick_false rfl rfl) ?_
             refine jz ?_
             refine jnt ?_
             refine jc_ret ?_
             refine jq_then_ret ?_
             refine jq_block_ret ?_
             refine jq_then_ret ?_
             refine jq_ret1 rfl rfl ?_
             exact fun _ hw => ⟨congrArg (fun b => Ending.returned (Value.bool b)) (by rw [Bool.eq_iff_iff, ouFits_iff]; unfold ouKind; simp only [decide_eq_true_eq, decide_eq_false_iff_not, Bool.false_eq_true, false_iff] at *; first | exact ouB1 (by omega) (by omega) | exact ouB2 (by omega) (by omega) | exact ouB3 (by omega) (by omega) | (rintro ⟨a1, a2, a3, a4⟩; omega)), hw.ch⟩
            )
          ·first
           | (exfalso; omega)
           | (
            refine jnt ?_
            refine jc_false rfl ?_
            refine jc_skip ?_
            refine jq_block ?_
            refine jq_then ?_
            refine jc_seq ?_
            refine jsr ?_
            refine jz ?_
            refine jz ?_
            refine jz ?_
            refine jz ?_
            first | refine jy (y_eql_agg rfl rfl (by kernel_rfl) (fun w => eq_oup 9998 o ⟨o.kind, o.amount, o.key, ⟨#[]⟩, 0, ⟨#[]⟩, 0, 0, ⟨#[]⟩⟩ w)) ?_ | refine jy (y_eql_agg rfl rfl (by kernel_rfl) (fun w => eq_oup 9998 o ⟨o.kind, o.amount, o.key, o.gate, o.expiry, o.anchor, o.unit, o.tokens, ⟨#[]⟩⟩ w)) ?_ | refine jy (y_eql_agg rfl rfl (by kernel_rfl) (fun w => eq_oup 9998 o ⟨o.kind, o.amount, o.key, o.gate, o.expiry, ⟨#[]⟩, 0, 0, o.of⟩ w)) ?_
            refine jy (y_pick_true rfl rfl) ?_
            refine jz ?_
            refine jnt ?_
            refine jc_ret ?_
            refine jq_then_ret ?_
            refine jq_block_ret ?_
            refine jq_then_ret ?_
            refine jq_ret1 rfl rfl ?_
            exact fun _ hw => ⟨congrArg (fun b => Ending.returned (Value.bool b)) (by rw [Bool.eq_iff_iff, ouFits_iff]; unfold ouKind; simp only [decide_eq_true_eq, decide_eq_false_iff_not, Bool.false_eq_true, false_iff] at *; first | exact ouB1 (by omega) (by omega) | exact ouB2 (by omega) (by omega) | exact ouB3 (by omega) (by omega) | (rintro ⟨a1, a2, a3, a4⟩; omega)), hw.ch⟩
            )
         ·skip
          refine jy (y_pick_true rfl rfl) ?_
          refine jz ?_
          refine jnt ?_
          refine jsr ?_
          refine jz ?_
          refine jz ?_
          refine jy (y_eql rfl rfl) ?_
          refine jl_prop (fun h67 => ?_) (fun h67 => ?_)
          ·first
           | (exfalso; omega)
           | (
            refine jnt ?_
            refine jc_true rfl ?_
            refine jsr ?_
            refine jz ?_
            refine jz ?_
            refine jz ?_
            refine jst ?_
            refine jnt ?_
            refine jc_region ?_
            refine jz ?_
            refine jz ?_
            refine jsk ?_
            refine jsk ?_
            refine jsk ?_
            refine jy (y_pick_false rfl rfl) ?_
            refine jz ?_
            refine jl_nil ?_
            refine jq_block ?_
            refine jq_then ?_
            refine jc_seq ?_
            refine jsr ?_
            refine jz ?_
            refine jz ?_
            refine jsk ?_
            refine jsk ?_
            refine jsk ?_
            refine jy (y_pick_false rfl rfl) ?_
            refine jz ?_
            refine jnt ?_
            refine jc_ret ?_
            refine jq_then_ret ?_
            refine jq_block_ret ?_
            refine jq_then_ret ?_
            refine jq_ret1 rfl rfl ?_
            exact fun _ hw => ⟨congrArg (fun b => Ending.returned (Value.bool b)) (by rw [Bool.eq_iff_iff, ouFits_iff]; unfold ouKind; simp only [decide_eq_true_eq, decide_eq_false_iff_not, Bool.false_eq_true, false_iff] at *; first | exact ouB1 (by omega) (by omega) | exact ouB2 (by omega) (by omega) | exact ouB3 (by omega) (by omega) | (rintro ⟨a1, a2, a3, a4⟩; omega)), hw.ch⟩
            )
          ·first
           | (exfalso; omega)
           | (
            refine jnt ?_
            refine jc_false rfl ?_
            refine jc_skip ?_
            refine jq_block ?_
            refine jq_then ?_
            refine jc_seq ?_
            refine jsr ?_
            refine jz ?_
            refine jz ?_
            refine jsk ?_
            refine jsk ?_
            refine jsk ?_
            refine jy (y_pick_false rfl rfl) ?_
            refine jz ?_
            refine jnt ?_
            refine jc_ret ?_
            refine jq_then_ret ?_
            refine jq_block_ret ?_
            refine jq_then_ret ?_
            refine jq_ret1 rfl rfl ?_
            exact fun _ hw => ⟨congrArg (fun b => Ending.returned (Value.bool b)) (by rw [Bool.eq_iff_iff, ouFits_iff]; unfold ouKind; simp only [decide_eq_true_eq, decide_eq_false_iff_not, Bool.false_eq_true, false_iff] at *; first | exact ouB1 (by omega) (by omega) | exact ouB2 (by omega) (by omega) | exact ouB3 (by omega) (by omega) | (rintro ⟨a1, a2, a3, a4⟩; omega)), hw.ch⟩
            )
        ·skip
         refine jy (y_pick_true rfl rfl) ?_
         refine jz ?_
         refine jsk ?_
         refine jsk ?_
         refine jsk ?_
         refine jy (y_pick_false rfl rfl) ?_
         refine jz ?_
         refine jnt ?_
         refine jsr ?_
         refine jz ?_
         refine jz ?_
         refine jy (y_eql rfl rfl) ?_
         refine jl_prop (fun h67 => ?_) (fun h67 => ?_)
         ·first
          | (exfalso; omega)
          | (
           refine jnt ?_
           refine jc_true rfl ?_
           refine jsr ?_
           refine jz ?_
           refine jz ?_
           refine jz ?_
           refine jst ?_
           refine jnt ?_
           refine jc_region ?_
           refine jz ?_
           refine jz ?_
           refine jsk ?_
           refine jsk ?_
           refine jsk ?_
           refine jy (y_pick_false rfl rfl) ?_
           refine jz ?_
           refine jl_nil ?_
           refine jq_block ?_
           refine jq_then ?_
           refine jc_seq ?_
           refine jsr ?_
           refine jz ?_
           refine jz ?_
           refine jsk ?_
           refine jsk ?_
           refine jsk ?_
           refine jy (y_pick_false rfl rfl) ?_
           refine jz ?_
           refine jnt ?_
           refine jc_ret ?_
           refine jq_then_ret ?_
           refine jq_block_ret ?_
           refine jq_then_ret ?_
           refine jq_ret1 rfl rfl ?_
           exact fun _ hw => ⟨congrArg (fun b => Ending.returned (Value.bool b)) (by rw [Bool.eq_iff_iff, ouFits_iff]; unfold ouKind; simp only [decide_eq_true_eq, decide_eq_false_iff_not, Bool.false_eq_true, false_iff] at *; first | exact ouB1 (by omega) (by omega) | exact ouB2 (by omega) (by omega) | exact ouB3 (by omega) (by omega) | (rintro ⟨a1, a2, a3, a4⟩; omega)), hw.ch⟩
           )
         ·first
          | (exfalso; omega)
          | (
           refine jnt ?_
           refine jc_false rfl ?_
           refine jc_skip ?_
           refine jq_block ?_
           refine jq_then ?_
           refine jc_seq ?_
           refine jsr ?_
           refine jz ?_
           refine jz ?_
           refine jsk ?_
           refine jsk ?_
           refine jsk ?_
           refine jy (y_pick_false rfl rfl) ?_
           refine jz ?_
           refine jnt ?_
           refine jc_ret ?_
           refine jq_then_ret ?_
           refine jq_block_ret ?_
           refine jq_then_ret ?_
           refine jq_ret1 rfl rfl ?_
           exact fun _ hw => ⟨congrArg (fun b => Ending.returned (Value.bool b)) (by rw [Bool.eq_iff_iff, ouFits_iff]; unfold ouKind; simp only [decide_eq_true_eq, decide_eq_false_iff_not, Bool.false_eq_true, false_iff] at *; first | exact ouB1 (by omega) (by omega) | exact ouB2 (by omega) (by omega) | exact ouB3 (by omega) (by omega) | (rintro ⟨a1, a2, a3, a4⟩; omega)), hw.ch⟩
           )
        )
      ·first
       | (exfalso; omega)
       | (
        refine jz ?_
        refine jnt ?_
        refine jc_false rfl ?_
        refine jc_skip ?_
        refine jq_then ?_
        refine jsr ?_
        refine jy (y_eql rfl rfl) ?_
        refine jl_prop (fun h27 => ?_) (fun h27 => ?_)
        ·first
         | (exfalso; omega)
         | (
          refine jz ?_
          refine jnt ?_
          refine jc_true rfl ?_
          refine jc_exit ?_
          refine jq_then_exit ?_
          refine jq_miss rfl ?_
          refine jq_then_exit ?_
          refine jq_miss rfl ?_
          refine jq_then_exit ?_
          refine jq_hit ?_
          refine jq_then ?_
          refine jc_seq ?_
          refine jsr ?_
          refine jz ?_
          refine jz ?_
          refine jz ?_
          refine jz ?_
          first | refine jy (y_eql_agg rfl rfl (by kernel_rfl) (fun w => eq_oup 9998 o ⟨o.kind, o.amount, o.key, ⟨#[]⟩, 0, ⟨#[]⟩, 0, 0, ⟨#[]⟩⟩ w)) ?_ | refine jy (y_eql_agg rfl rfl (by kernel_rfl) (fun w => eq_oup 9998 o ⟨o.kind, o.amount, o.key, o.gate, o.expiry, o.anchor, o.unit, o.tokens, ⟨#[]⟩⟩ w)) ?_ | refine jy (y_eql_agg rfl rfl (by kernel_rfl) (fun w => eq_oup 9998 o ⟨o.kind, o.amount, o.key, o.gate, o.expiry, ⟨#[]⟩, 0, 0, o.of⟩ w)) ?_
          refine jy (y_pick_true rfl rfl) ?_
          refine jz ?_
          refine jnt ?_
          refine jc_ret ?_
          refine jq_then_ret ?_
          refine jq_block_ret ?_
          refine jq_then_ret ?_
          refine jq_ret1 rfl rfl ?_
          exact fun _ hw => ⟨congrArg (fun b => Ending.returned (Value.bool b)) (by rw [Bool.eq_iff_iff, ouFits_iff]; unfold ouKind; simp only [decide_eq_true_eq, decide_eq_false_iff_not, Bool.false_eq_true, false_iff] at *; first | exact ouB1 (by omega) (by omega) | exact ouB2 (by omega) (by omega) | exact ouB3 (by omega) (by omega) | (rintro ⟨a1, a2, a3, a4⟩; omega)), hw.ch⟩
          )
        ·first
         | (exfalso; omega)
         | (
          refine jz ?_
          refine jnt ?_
          refine jc_false rfl ?_
          refine jc_skip ?_
          refine jq_then ?_
          refine jc_exit ?_
          refine jq_miss rfl ?_
          refine jq_then_exit ?_
          refine jq_miss rfl ?_
          refine jq_then_exit ?_
          refine jq_miss rfl ?_
          refine jq_then_exit ?_
          refine jq_hit ?_
          refine jq_then ?_
          refine jsr ?_
          refine jz ?_
          refine jnt ?_
          refine jc_ret ?_
          refine jq_ret1 rfl rfl ?_
          exact fun _ hw => ⟨congrArg (fun b => Ending.returned (Value.bool b)) (by rw [Bool.eq_iff_iff, ouFits_iff]; unfold ouKind; simp only [decide_eq_true_eq, decide_eq_false_iff_not, Bool.false_eq_true, false_iff] at *; first | exact ouB1 (by omega) (by omega) | exact ouB2 (by omega) (by omega) | exact ouB3 (by omega) (by omega) | (rintro ⟨a1, a2, a3, a4⟩; omega)), hw.ch⟩
          )
        )
      )
   ·skip
    refine jy (y_pick_true rfl rfl) ?_
    refine jz ?_
    refine jnt ?_
    refine jc_seq ?_
    refine jsr ?_
    refine jz ?_
    refine jz ?_
    refine jnt ?_
    refine jc_block ?_
    refine jc_seq ?_
    refine jc_block ?_
    refine jc_seq ?_
    refine jc_block ?_
    refine jc_seq ?_
    refine jc_block ?_
    refine jc_seq ?_
    refine jc_seq ?_
    refine jsr ?_
    refine jy (y_eql rfl rfl) ?_
    refine jl_prop (fun h23 => ?_) (fun h23 => ?_)
    ·first
     | (exfalso; omega)
     | (
      refine jz ?_
      refine jnt ?_
      refine jc_true rfl ?_
      refine jc_exit ?_
      refine jq_then_exit ?_
      refine jq_then_exit ?_
      refine jq_hit ?_
      refine jq_then ?_
      refine jc_seq ?_
      refine jc_schedC (Hp w [] [.cells b1 (Oup.c o)]) 11 [(0, true), (1, true), (2, true), (3, true), (4, true), (5, true), (6, true), (7, false), (8, true), (9, false), (10, true)] rfl (by kernel_rfl) (fun _ _ _ _ h => h) (fun _ h => (h.part (.cons (by first | exact del0 | exact del1) .nil)).drew) (fun _ h => h.drew) ?_
      simp only [pickO, nthO, List.drop_succ_cons, List.drop_zero]
      refine jkz ?_
      refine jkz ?_
      refine jkz ?_
      refine jkz ?_
      refine jkz ?_
      refine jkz ?_
      refine jkz ?_
      refine js_w rfl rfl (w_store_lit rfl rfl rfl (by first | exact rep0 | exact rep1 | exact rep2 | exact rep3 | exact rep4) (by repeat constructor)) (by intro _ h; exact h.part (.cons (by first | exact del0 | exact del1) .nil)) ?_
      refine jkz ?_
      refine js_w rfl rfl (w_store_lit rfl rfl rfl (by first | exact rep0 | exact rep1 | exact rep2 | exact rep3 | exact rep4) (by repeat constructor)) (by intro _ h; exact h.part (.cons (by first | exact del0 | exact del1) .nil)) ?_
      refine jkz ?_
      refine js_nil ?_
      refine jst ?_
      refine jnt ?_
      refine jc_region ?_
      refine jz ?_
      refine jz ?_
      refine jsk ?_
      refine jsk ?_
      refine jsk ?_
      refine jy (y_pick_false rfl rfl) ?_
      refine jz ?_
      refine jsk ?_
      refine jsk ?_
      refine jsk ?_
      refine jy (y_pick_false rfl rfl) ?_
      refine jz ?_
      refine jl_nil ?_
      refine jq_block ?_
      refine jq_then ?_
      refine jc_seq ?_
      refine jc_schedC (Hp w [] [.cells b1 (Oup.c o)]) 7 [(0, true), (1, true), (2, true), (3, true), (4, true), (5, false), (6, true)] rfl (by kernel_rfl) (fun _ _ _ _ h => h) (fun _ h => (h.part (.cons (by first | exact del0 | exact del1) .nil)).drew) (fun _ h => h.drew) ?_
      simp only [pickO, nthO, List.drop_succ_cons, List.drop_zero]
      refine jkz ?_
      refine jkz ?_
      refine jkz ?_
      refine jkz ?_
      refine jkz ?_
      refine js_w rfl rfl (w_store_lit rfl rfl rfl (by first | exact rep0 | exact rep1 | exact rep2 | exact rep3 | exact rep4) (by repeat constructor)) (by intro _ h; exact h.part (.cons (by first | exact del0 | exact del1) .nil)) ?_
      refine jkz ?_
      refine js_nil ?_
      refine jst ?_
      refine jnt ?_
      refine jsr ?_
      refine jz ?_
      refine jz ?_
      refine jsk ?_
      refine jsk ?_
      refine jsk ?_
      refine jy (y_pick_false rfl rfl) ?_
      refine jz ?_
      refine jsk ?_
      refine jsk ?_
      refine jsk ?_
      refine jy (y_pick_false rfl rfl) ?_
      refine jz ?_
      refine jnt ?_
      refine jsr ?_
      refine jz ?_
      refine jz ?_
      refine jy (y_eql rfl rfl) ?_
      refine jl_prop (fun h67 => ?_) (fun h67 => ?_)
      ·first
       | (exfalso; omega)
       | (
        refine jnt ?_
        refine jc_true rfl ?_
        refine jsr ?_
        refine jz ?_
        refine jz ?_
        refine jz ?_
        refine jst ?_
        refine jnt ?_
        refine jc_region ?_
        refine jz ?_
        refine jz ?_
        refine jsk ?_
        refine jsk ?_
        refine jsk ?_
        refine jy (y_pick_false rfl rfl) ?_
        refine jz ?_
        refine jl_nil ?_
        refine jq_block ?_
        refine jq_then ?_
        refine jc_seq ?_
        refine jsr ?_
        refine jz ?_
        refine jz ?_
        refine jsk ?_
        refine jsk ?_
        refine jsk ?_
        refine jy (y_pick_false rfl rfl) ?_
        refine jz ?_
        refine jnt ?_
        refine jc_ret ?_
        refine jq_then_ret ?_
        refine jq_block_ret ?_
        refine jq_then_ret ?_
        refine jq_ret1 rfl rfl ?_
        exact fun _ hw => ⟨congrArg (fun b => Ending.returned (Value.bool b)) (by rw [Bool.eq_iff_iff, ouFits_iff]; unfold ouKind; simp only [decide_eq_true_eq, decide_eq_false_iff_not, Bool.false_eq_true, false_iff] at *; first | exact ouB1 (by omega) (by omega) | exact ouB2 (by omega) (by omega) | exact ouB3 (by omega) (by omega) | (rintro ⟨a1, a2, a3, a4⟩; omega)), hw.ch⟩
        )
      ·first
       | (exfalso; omega)
       | (
        refine jnt ?_
        refine jc_false rfl ?_
        refine jc_skip ?_
        refine jq_block ?_
        refine jq_then ?_
        refine jc_seq ?_
        refine jsr ?_
        refine jz ?_
        refine jz ?_
        refine jsk ?_
        refine jsk ?_
        refine jsk ?_
        refine jy (y_pick_false rfl rfl) ?_
        refine jz ?_
        refine jnt ?_
        refine jc_ret ?_
        refine jq_then_ret ?_
        refine jq_block_ret ?_
        refine jq_then_ret ?_
        refine jq_ret1 rfl rfl ?_
        exact fun _ hw => ⟨congrArg (fun b => Ending.returned (Value.bool b)) (by rw [Bool.eq_iff_iff, ouFits_iff]; unfold ouKind; simp only [decide_eq_true_eq, decide_eq_false_iff_not, Bool.false_eq_true, false_iff] at *; first | exact ouB1 (by omega) (by omega) | exact ouB2 (by omega) (by omega) | exact ouB3 (by omega) (by omega) | (rintro ⟨a1, a2, a3, a4⟩; omega)), hw.ch⟩
        )
      )
    ·first
     | (exfalso; omega)
     | (
      refine jz ?_
      refine jnt ?_
      refine jc_false rfl ?_
      refine jc_skip ?_
      refine jq_then ?_
      refine jc_seq ?_
      refine jsr ?_
      refine jy (y_eql rfl rfl) ?_
      refine jl_prop (fun h25 => ?_) (fun h25 => ?_)
      ·first
       | (exfalso; omega)
       | (
        refine jz ?_
        refine jnt ?_
        refine jc_true rfl ?_
        refine jc_exit ?_
        refine jq_then_exit ?_
        refine jq_then_exit ?_
        refine jq_miss rfl ?_
        refine jq_then_exit ?_
        refine jq_hit ?_
        refine jq_then ?_
        refine jc_seq ?_
        refine jc_schedC (Hp w [] [.cells b1 (Oup.c o)]) 7 [(0, true), (1, true), (2, true), (3, true), (4, true), (5, false), (6, true)] rfl (by kernel_rfl) (fun _ _ _ _ h => h) (fun _ h => (h.part (.cons (by first | exact del0 | exact del1) .nil)).drew) (fun _ h => h.drew) ?_
        simp only [pickO, nthO, List.drop_succ_cons, List.drop_zero]
        refine jkz ?_
        refine jkz ?_
        refine jkz ?_
        refine jkz ?_
        refine jkz ?_
        refine js_w rfl rfl (w_store_lit rfl rfl rfl (by first | exact rep0 | exact rep1 | exact rep2 | exact rep3 | exact rep4) (by repeat constructor)) (by intro _ h; exact h.part (.cons (by first | exact del0 | exact del1) .nil)) ?_
        refine jkz ?_
        refine js_nil ?_
        refine jst ?_
        refine jnt ?_
        refine jsr ?_
        refine jz ?_
        refine jz ?_
        refine jsk ?_
        refine jsk ?_
        refine jsk ?_
        refine jy (y_pick_false rfl rfl) ?_
        refine jz ?_
        refine jsk ?_
        refine jsk ?_
        refine jsk ?_
        refine jy (y_pick_false rfl rfl) ?_
        refine jz ?_
        refine jnt ?_
        refine jsr ?_
        refine jz ?_
        refine jz ?_
        refine jy (y_eql rfl rfl) ?_
        refine jl_prop (fun h67 => ?_) (fun h67 => ?_)
        ·first
         | (exfalso; omega)
         | (
          refine jnt ?_
          refine jc_true rfl ?_
          refine jsr ?_
          refine jz ?_
          refine jz ?_
          refine jz ?_
          refine jst ?_
          refine jnt ?_
          refine jc_region ?_
          refine jz ?_
          refine jz ?_
          refine jsk ?_
          refine jsk ?_
          refine jsk ?_
          refine jy (y_pick_false rfl rfl) ?_
          refine jz ?_
          refine jl_nil ?_
          refine jq_block ?_
          refine jq_then ?_
          refine jc_seq ?_
          refine jsr ?_
          refine jz ?_
          refine jz ?_
          refine jsk ?_
          refine jsk ?_
          refine jsk ?_
          refine jy (y_pick_false rfl rfl) ?_
          refine jz ?_
          refine jnt ?_
          refine jc_ret ?_
          refine jq_then_ret ?_
          refine jq_block_ret ?_
          refine jq_then_ret ?_
          refine jq_ret1 rfl rfl ?_
          exact fun _ hw => ⟨congrArg (fun b => Ending.returned (Value.bool b)) (by rw [Bool.eq_iff_iff, ouFits_iff]; unfold ouKind; simp only [decide_eq_true_eq, decide_eq_false_iff_not, Bool.false_eq_true, false_iff] at *; first | exact ouB1 (by omega) (by omega) | exact ouB2 (by omega) (by omega) | exact ouB3 (by omega) (by omega) | (rintro ⟨a1, a2, a3, a4⟩; omega)), hw.ch⟩
          )
        ·first
         | (exfalso; omega)
         | (
          refine jnt ?_
          refine jc_false rfl ?_
          refine jc_skip ?_
          refine jq_block ?_
          refine jq_then ?_
          refine jc_seq ?_
          refine jsr ?_
          refine jz ?_
          refine jz ?_
          refine jsk ?_
          refine jsk ?_
          refine jsk ?_
          refine jy (y_pick_false rfl rfl) ?_
          refine jz ?_
          refine jnt ?_
          refine jc_ret ?_
          refine jq_then_ret ?_
          refine jq_block_ret ?_
          refine jq_then_ret ?_
          refine jq_ret1 rfl rfl ?_
          exact fun _ hw => ⟨congrArg (fun b => Ending.returned (Value.bool b)) (by rw [Bool.eq_iff_iff, ouFits_iff]; unfold ouKind; simp only [decide_eq_true_eq, decide_eq_false_iff_not, Bool.false_eq_true, false_iff] at *; first | exact ouB1 (by omega) (by omega) | exact ouB2 (by omega) (by omega) | exact ouB3 (by omega) (by omega) | (rintro ⟨a1, a2, a3, a4⟩; omega)), hw.ch⟩
          )
        )
      ·first
       | (exfalso; omega)
       | (
        refine jz ?_
        refine jnt ?_
        refine jc_false rfl ?_
        refine jc_skip ?_
        refine jq_then ?_
        refine jsr ?_
        refine jy (y_eql rfl rfl) ?_
        refine jl_prop (fun h27 => ?_) (fun h27 => ?_)
        ·first
         | (exfalso; omega)
         | (
          refine jz ?_
          refine jnt ?_
          refine jc_true rfl ?_
          refine jc_exit ?_
          refine jq_then_exit ?_
          refine jq_miss rfl ?_
          refine jq_then_exit ?_
          refine jq_miss rfl ?_
          refine jq_then_exit ?_
          refine jq_hit ?_
          refine jq_then ?_
          refine jc_seq ?_
          refine jsr ?_
          refine jz ?_
          refine jz ?_
          refine jsk ?_
          refine jsk ?_
          refine jsk ?_
          refine jy (y_pick_false rfl rfl) ?_
          refine jz ?_
          refine jnt ?_
          refine jc_ret ?_
          refine jq_then_ret ?_
          refine jq_block_ret ?_
          refine jq_then_ret ?_
          refine jq_ret1 rfl rfl ?_
          exact fun _ hw => ⟨congrArg (fun b => Ending.returned (Value.bool b)) (by rw [Bool.eq_iff_iff, ouFits_iff]; unfold ouKind; simp only [decide_eq_true_eq, decide_eq_false_iff_not, Bool.false_eq_true, false_iff] at *; first | exact ouB1 (by omega) (by omega) | exact ouB2 (by omega) (by omega) | exact ouB3 (by omega) (by omega) | (rintro ⟨a1, a2, a3, a4⟩; omega)), hw.ch⟩
          )
        ·first
         | (exfalso; omega)
         | (
          refine jz ?_
          refine jnt ?_
          refine jc_false rfl ?_
          refine jc_skip ?_
          refine jq_then ?_
          refine jc_exit ?_
          refine jq_miss rfl ?_
          refine jq_then_exit ?_
          refine jq_miss rfl ?_
          refine jq_then_exit ?_
          refine jq_miss rfl ?_
          refine jq_then_exit ?_
          refine jq_hit ?_
          refine jq_then ?_
          refine jsr ?_
          refine jz ?_
          refine jnt ?_
          refine jc_ret ?_
          refine jq_ret1 rfl rfl ?_
          exact fun _ hw => ⟨congrArg (fun b => Ending.returned (Value.bool b)) (by rw [Bool.eq_iff_iff, ouFits_iff]; unfold ouKind; simp only [decide_eq_true_eq, decide_eq_false_iff_not, Bool.false_eq_true, false_iff] at *; first | exact ouB1 (by omega) (by omega) | exact ouB2 (by omega) (by omega) | exact ouB3 (by omega) (by omega) | (rintro ⟨a1, a2, a3, a4⟩; omega)), hw.ch⟩
          )
        )
      )
   )
 ·first
  | (exfalso; omega)
  | (
   refine jz ?_
   refine jsk ?_
   refine jsk ?_
   refine jsk ?_
   refine jy (y_pick_false rfl rfl) ?_
   refine jz ?_
   refine jnt ?_
   refine jc_seq ?_
   refine jsr ?_
   refine jz ?_
   refine jz ?_
   refine jnt ?_
   refine jc_block ?_
   refine jc_seq ?_
   refine jc_block ?_
   refine jc_seq ?_
   refine jc_block ?_
   refine jc_seq ?_
   refine jc_block ?_
   refine jc_seq ?_
   refine jc_seq ?_
   refine jsr ?_
   refine jy (y_eql rfl rfl) ?_
   refine jl_prop (fun h23 => ?_) (fun h23 => ?_)
   ·first
    | (exfalso; omega)
    | (
     refine jz ?_
     refine jnt ?_
     refine jc_true rfl ?_
     refine jc_exit ?_
     refine jq_then_exit ?_
     refine jq_then_exit ?_
     refine jq_hit ?_
     refine jq_then ?_
     refine jc_seq ?_
     refine jc_schedC (Hp w [] [.cells b1 (Oup.c o)]) 11 [(0, true), (1, true), (2, true), (3, true), (4, true), (5, true), (6, true), (7, false), (8, true), (9, false), (10, true)] rfl (by kernel_rfl) (fun _ _ _ _ h => h) (fun _ h => (h.part (.cons (by first | exact del0 | exact del1) .nil)).drew) (fun _ h => h.drew) ?_
     simp only [pickO, nthO, List.drop_succ_cons, List.drop_zero]
     refine jkz ?_
     refine jkz ?_
     refine jkz ?_
     refine jkz ?_
     refine jkz ?_
     refine jkz ?_
     refine jkz ?_
     refine js_w rfl rfl (w_store_lit rfl rfl rfl (by first | exact rep0 | exact rep1 | exact rep2 | exact rep3 | exact rep4) (by repeat constructor)) (by intro _ h; exact h.part (.cons (by first | exact del0 | exact del1) .nil)) ?_
     refine jkz ?_
     refine js_w rfl rfl (w_store_lit rfl rfl rfl (by first | exact rep0 | exact rep1 | exact rep2 | exact rep3 | exact rep4) (by repeat constructor)) (by intro _ h; exact h.part (.cons (by first | exact del0 | exact del1) .nil)) ?_
     refine jkz ?_
     refine js_nil ?_
     refine jst ?_
     refine jnt ?_
     refine jc_region ?_
     refine jz ?_
     refine jz ?_
     refine jsk ?_
     refine jsk ?_
     refine jsk ?_
     refine jy (y_pick_false rfl rfl) ?_
     refine jz ?_
     refine jsk ?_
     refine jsk ?_
     refine jsk ?_
     refine jy (y_pick_false rfl rfl) ?_
     refine jz ?_
     refine jl_nil ?_
     refine jq_block ?_
     refine jq_then ?_
     refine jc_seq ?_
     refine jc_schedC (Hp w [] [.cells b1 (Oup.c o)]) 7 [(0, true), (1, true), (2, true), (3, true), (4, true), (5, false), (6, true)] rfl (by kernel_rfl) (fun _ _ _ _ h => h) (fun _ h => (h.part (.cons (by first | exact del0 | exact del1) .nil)).drew) (fun _ h => h.drew) ?_
     simp only [pickO, nthO, List.drop_succ_cons, List.drop_zero]
     refine jkz ?_
     refine jkz ?_
     refine jkz ?_
     refine jkz ?_
     refine jkz ?_
     refine js_w rfl rfl (w_store_lit rfl rfl rfl (by first | exact rep0 | exact rep1 | exact rep2 | exact rep3 | exact rep4) (by repeat constructor)) (by intro _ h; exact h.part (.cons (by first | exact del0 | exact del1) .nil)) ?_
     refine jkz ?_
     refine js_nil ?_
     refine jst ?_
     refine jnt ?_
     refine jsr ?_
     refine jz ?_
     refine jz ?_
     refine jsk ?_
     refine jsk ?_
     refine jsk ?_
     refine jy (y_pick_false rfl rfl) ?_
     refine jz ?_
     refine jsk ?_
     refine jsk ?_
     refine jsk ?_
     refine jy (y_pick_false rfl rfl) ?_
     refine jz ?_
     refine jnt ?_
     refine jsr ?_
     refine jz ?_
     refine jz ?_
     refine jy (y_eql rfl rfl) ?_
     refine jl_prop (fun h67 => ?_) (fun h67 => ?_)
     ·first
      | (exfalso; omega)
      | (
       refine jnt ?_
       refine jc_true rfl ?_
       refine jsr ?_
       refine jz ?_
       refine jz ?_
       refine jz ?_
       refine jst ?_
       refine jnt ?_
       refine jc_region ?_
       refine jz ?_
       refine jz ?_
       refine jsk ?_
       refine jsk ?_
       refine jsk ?_
       refine jy (y_pick_false rfl rfl) ?_
       refine jz ?_
       refine jl_nil ?_
       refine jq_block ?_
       refine jq_then ?_
       refine jc_seq ?_
       refine jsr ?_
       refine jz ?_
       refine jz ?_
       refine jsk ?_
       refine jsk ?_
       refine jsk ?_
       refine jy (y_pick_false rfl rfl) ?_
       refine jz ?_
       refine jnt ?_
       refine jc_ret ?_
       refine jq_then_ret ?_
       refine jq_block_ret ?_
       refine jq_then_ret ?_
       refine jq_ret1 rfl rfl ?_
       exact fun _ hw => ⟨congrArg (fun b => Ending.returned (Value.bool b)) (by rw [Bool.eq_iff_iff, ouFits_iff]; unfold ouKind; simp only [decide_eq_true_eq, decide_eq_false_iff_not, Bool.false_eq_true, false_iff] at *; first | exact ouB1 (by omega) (by omega) | exact ouB2 (by omega) (by omega) | exact ouB3 (by omega) (by omega) | (rintro ⟨a1, a2, a3, a4⟩; omega)), hw.ch⟩
       )
     ·first
      | (exfalso; omega)
      | (
       refine jnt ?_
       refine jc_false rfl ?_
       refine jc_skip ?_
       refine jq_block ?_
       refine jq_then ?_
       refine jc_seq ?_
       refine jsr ?_
       refine jz ?_
       refine jz ?_
       refine jsk ?_
       refine jsk ?_
       refine jsk ?_
       refine jy (y_pick_false rfl rfl) ?_
       refine jz ?_
       refine jnt ?_
       refine jc_ret ?_
       refine jq_then_ret ?_
       refine jq_block_ret ?_
       refine jq_then_ret ?_
       refine jq_ret1 rfl rfl ?_
       exact fun _ hw => ⟨congrArg (fun b => Ending.returned (Value.bool b)) (by rw [Bool.eq_iff_iff, ouFits_iff]; unfold ouKind; simp only [decide_eq_true_eq, decide_eq_false_iff_not, Bool.false_eq_true, false_iff] at *; first | exact ouB1 (by omega) (by omega) | exact ouB2 (by omega) (by omega) | exact ouB3 (by omega) (by omega) | (rintro ⟨a1, a2, a3, a4⟩; omega)), hw.ch⟩
       )
     )
   ·first
    | (exfalso; omega)
    | (
     refine jz ?_
     refine jnt ?_
     refine jc_false rfl ?_
     refine jc_skip ?_
     refine jq_then ?_
     refine jc_seq ?_
     refine jsr ?_
     refine jy (y_eql rfl rfl) ?_
     refine jl_prop (fun h25 => ?_) (fun h25 => ?_)
     ·first
      | (exfalso; omega)
      | (
       refine jz ?_
       refine jnt ?_
       refine jc_true rfl ?_
       refine jc_exit ?_
       refine jq_then_exit ?_
       refine jq_then_exit ?_
       refine jq_miss rfl ?_
       refine jq_then_exit ?_
       refine jq_hit ?_
       refine jq_then ?_
       refine jc_seq ?_
       refine jc_schedC (Hp w [] [.cells b1 (Oup.c o)]) 7 [(0, true), (1, true), (2, true), (3, true), (4, true), (5, false), (6, true)] rfl (by kernel_rfl) (fun _ _ _ _ h => h) (fun _ h => (h.part (.cons (by first | exact del0 | exact del1) .nil)).drew) (fun _ h => h.drew) ?_
       simp only [pickO, nthO, List.drop_succ_cons, List.drop_zero]
       refine jkz ?_
       refine jkz ?_
       refine jkz ?_
       refine jkz ?_
       refine jkz ?_
       refine js_w rfl rfl (w_store_lit rfl rfl rfl (by first | exact rep0 | exact rep1 | exact rep2 | exact rep3 | exact rep4) (by repeat constructor)) (by intro _ h; exact h.part (.cons (by first | exact del0 | exact del1) .nil)) ?_
       refine jkz ?_
       refine js_nil ?_
       refine jst ?_
       refine jnt ?_
       refine jsr ?_
       refine jz ?_
       refine jz ?_
       refine jsk ?_
       refine jsk ?_
       refine jsk ?_
       refine jy (y_pick_false rfl rfl) ?_
       refine jz ?_
       refine jsk ?_
       refine jsk ?_
       refine jsk ?_
       refine jy (y_pick_false rfl rfl) ?_
       refine jz ?_
       refine jnt ?_
       refine jsr ?_
       refine jz ?_
       refine jz ?_
       refine jy (y_eql rfl rfl) ?_
       refine jl_prop (fun h67 => ?_) (fun h67 => ?_)
       ·first
        | (exfalso; omega)
        | (
         refine jnt ?_
         refine jc_true rfl ?_
         refine jsr ?_
         refine jz ?_
         refine jz ?_
         refine jz ?_
         refine jst ?_
         refine jnt ?_
         refine jc_region ?_
         refine jz ?_
         refine jz ?_
         refine jsk ?_
         refine jsk ?_
         refine jsk ?_
         refine jy (y_pick_false rfl rfl) ?_
         refine jz ?_
         refine jl_nil ?_
         refine jq_block ?_
         refine jq_then ?_
         refine jc_seq ?_
         refine jsr ?_
         refine jz ?_
         refine jz ?_
         refine jsk ?_
         refine jsk ?_
         refine jsk ?_
         refine jy (y_pick_false rfl rfl) ?_
         refine jz ?_
         refine jnt ?_
         refine jc_ret ?_
         refine jq_then_ret ?_
         refine jq_block_ret ?_
         refine jq_then_ret ?_
         refine jq_ret1 rfl rfl ?_
         exact fun _ hw => ⟨congrArg (fun b => Ending.returned (Value.bool b)) (by rw [Bool.eq_iff_iff, ouFits_iff]; unfold ouKind; simp only [decide_eq_true_eq, decide_eq_false_iff_not, Bool.false_eq_true, false_iff] at *; first | exact ouB1 (by omega) (by omega) | exact ouB2 (by omega) (by omega) | exact ouB3 (by omega) (by omega) | (rintro ⟨a1, a2, a3, a4⟩; omega)), hw.ch⟩
         )
       ·first
        | (exfalso; omega)
        | (
         refine jnt ?_
         refine jc_false rfl ?_
         refine jc_skip ?_
         refine jq_block ?_
         refine jq_then ?_
         refine jc_seq ?_
         refine jsr ?_
         refine jz ?_
         refine jz ?_
         refine jsk ?_
         refine jsk ?_
         refine jsk ?_
         refine jy (y_pick_false rfl rfl) ?_
         refine jz ?_
         refine jnt ?_
         refine jc_ret ?_
         refine jq_then_ret ?_
         refine jq_block_ret ?_
         refine jq_then_ret ?_
         refine jq_ret1 rfl rfl ?_
         exact fun _ hw => ⟨congrArg (fun b => Ending.returned (Value.bool b)) (by rw [Bool.eq_iff_iff, ouFits_iff]; unfold ouKind; simp only [decide_eq_true_eq, decide_eq_false_iff_not, Bool.false_eq_true, false_iff] at *; first | exact ouB1 (by omega) (by omega) | exact ouB2 (by omega) (by omega) | exact ouB3 (by omega) (by omega) | (rintro ⟨a1, a2, a3, a4⟩; omega)), hw.ch⟩
         )
       )
     ·first
      | (exfalso; omega)
      | (
       refine jz ?_
       refine jnt ?_
       refine jc_false rfl ?_
       refine jc_skip ?_
       refine jq_then ?_
       refine jsr ?_
       refine jy (y_eql rfl rfl) ?_
       refine jl_prop (fun h27 => ?_) (fun h27 => ?_)
       ·first
        | (exfalso; omega)
        | (
         refine jz ?_
         refine jnt ?_
         refine jc_true rfl ?_
         refine jc_exit ?_
         refine jq_then_exit ?_
         refine jq_miss rfl ?_
         refine jq_then_exit ?_
         refine jq_miss rfl ?_
         refine jq_then_exit ?_
         refine jq_hit ?_
         refine jq_then ?_
         refine jc_seq ?_
         refine jsr ?_
         refine jz ?_
         refine jz ?_
         refine jsk ?_
         refine jsk ?_
         refine jsk ?_
         refine jy (y_pick_false rfl rfl) ?_
         refine jz ?_
         refine jnt ?_
         refine jc_ret ?_
         refine jq_then_ret ?_
         refine jq_block_ret ?_
         refine jq_then_ret ?_
         refine jq_ret1 rfl rfl ?_
         exact fun _ hw => ⟨congrArg (fun b => Ending.returned (Value.bool b)) (by rw [Bool.eq_iff_iff, ouFits_iff]; unfold ouKind; simp only [decide_eq_true_eq, decide_eq_false_iff_not, Bool.false_eq_true, false_iff] at *; first | exact ouB1 (by omega) (by omega) | exact ouB2 (by omega) (by omega) | exact ouB3 (by omega) (by omega) | (rintro ⟨a1, a2, a3, a4⟩; omega)), hw.ch⟩
         )
       ·first
        | (exfalso; omega)
        | (
         refine jz ?_
         refine jnt ?_
         refine jc_false rfl ?_
         refine jc_skip ?_
         refine jq_then ?_
         refine jc_exit ?_
         refine jq_miss rfl ?_
         refine jq_then_exit ?_
         refine jq_miss rfl ?_
         refine jq_then_exit ?_
         refine jq_miss rfl ?_
         refine jq_then_exit ?_
         refine jq_hit ?_
         refine jq_then ?_
         refine jsr ?_
         refine jz ?_
         refine jnt ?_
         refine jc_ret ?_
         refine jq_ret1 rfl rfl ?_
         exact fun _ hw => ⟨congrArg (fun b => Ending.returned (Value.bool b)) (by rw [Bool.eq_iff_iff, ouFits_iff]; unfold ouKind; simp only [decide_eq_true_eq, decide_eq_false_iff_not, Bool.false_eq_true, false_iff] at *; first | exact ouB1 (by omega) (by omega) | exact ouB2 (by omega) (by omega) | exact ouB3 (by omega) (by omega) | (rintro ⟨a1, a2, a3, a4⟩; omega)), hw.ch⟩
         )
       )
     )
   )

end Go.Proofs.YtomhcibbalhgkaaGreat