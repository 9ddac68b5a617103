/- The walks of package coin, part two: what may be, and what is written. Written by program (walk.py) out of a table of contracts and invariants. -/
import Derived.Test.YtomhcibbalhgkaaGreatCa
namespace Go.Proofs.YtomhcibbalhgkaaGreat
open Go.RowKit
set_option maxRecDepth 100000
set_option maxHeartbeats 2000000
set_option linter.unusedVariables false
set_option linter.unusedSimpArgs false
instance : TMapB Tryz.prog 98 43 := ⟨4, Tryz.underlying98, fun w => by kernel_rfl⟩
instance : KeyEq Tryz.prog 43 Pnt.v := ⟨fun a b w => eq_pnt 9998 a b w, ⟨_, Tryz.underlying43, .inl fun a b => rfl⟩, fun e a w => by cases e <;> kernel_rfl⟩
def oddO (o : Oup) : Bool := !ouFits o
theorem odd_all {l : List Oup} (h : l.any oddO = false) : ∀ o ∈ l, ouFits o = true := by
  intro o ho
  have := (List.any_eq_false.1 h) o ho
  simpa [oddO] using this
theorem odd_some {l : List Oup} (h : l.any oddO = true) (ha : ∀ o ∈ l, ouFits o = true) : False := by
  obtain ⟨o, ho, h1⟩ := List.any_eq_true.1 h
  rw [oddO, ha o ho] at h1
  exact absurd h1 (by decide)
theorem tx_no1 {t : Trx} {x : Inp} {i : Nat} (hi : i < t.ins.length) (hx : t.ins[i] = x) (h : inFits x = false) : false = txRight t := by
  rw [eq_comm, Bool.eq_false_iff]
  intro hr
  have h1 := (txRight_iff.1 hr).1 x (hx ▸ List.getElem_mem hi)
  rw [h] at h1
  exact absurd h1 (by decide)
theorem nd_take {α β : Type} {f : α → β} {l : List α} {i : Nat} (hi : i < l.length) : (l.take (i + 1)).map f = (l.take i).map f ++ [f l[i]] := by
  rw [List.take_succ_eq_append_getElem hi, List.map_append]
  rfl
theorem nd_sub {α : Type} {l : List α} (h : l.Nodup) (i : Nat) : (l.take i).Nodup := h.sublist (List.take_sublist i l)
theorem tx_no2 {t : Trx} {x : Inp} {i : Nat} (hi : i < t.ins.length) (hx : t.ins[i] = x) (h : x.pt ∈ (t.ins.take i).map Inp.pt) : false = txRight t := by
  rw [eq_comm, Bool.eq_false_iff]
  intro hr
  have h1 := nd_sub (txRight_iff.1 hr).2.1 (i + 1)
  rw [← List.map_take, nd_take hi, hx, List.nodup_append] at h1
  exact h1.2.2 _ h _ (List.mem_singleton.2 rfl) rfl
theorem nd_next {t : Trx} {x : Inp} {i : Nat} (hi : i < t.ins.length) (hx : t.ins[i] = x) (hn : ((t.ins.take i).map Inp.pt).Nodup) (h : x.pt ∉ (t.ins.take i).map Inp.pt) : ((t.ins.take (i + 1)).map Inp.pt).Nodup := by
  rw [nd_take hi, hx, List.nodup_append]
  exact ⟨hn, List.pairwise_singleton _ _, fun a ha b hb e => by rw [List.mem_singleton.1 hb] at e; exact h (e ▸ ha)⟩

theorem infits_any (i : Inp) (w : World) :
  Calls Tryz.prog 54 #[.agg (Inp.c i).toArray] w fun e w' => e = .returned (.bool (inFits i)) ∧ Ch [] w w' := by
 refine calls_of (n := 24) (E := [(0, .agg (Inp.c i).toArray)]) (W := Hp w [] []) Tryz.func54 rfl rfl (Nat.le_of_ble_eq_true rfl) rfl (Hp.nil _ _) ?_
 refine jsr ?_
 refine jl_m rfl (by decide) rfl (m_box rfl rfl) (fun b1 => ?_)
 refine jz ?_
 refine jnt ?_
 refine jsr ?_
 refine jz ?_
 refine jz ?_
 refine jz ?_
 refine jpc (goes_func rfl) (fun w1 hw1 => chash16_any _ w1) ?_
 refine jl_bool (fun h6 => ?_) (fun h6 => ?_)
 ·skip
  refine jz ?_
  refine jz ?_
  refine jz ?_
  refine jz ?_
  refine jpc (goes_func rfl) (fun w1 hw1 => cwithin_any _ _ _ w1) ?_
  refine jl_bool (fun h11 => ?_) (fun h11 => ?_)
  ·skip
   refine jy (y_pick_true rfl rfl) ?_
   refine jz ?_
   refine jz ?_
   refine jz ?_
   refine jpc (goes_func rfl) (fun w1 hw1 => cwithin_any _ _ _ w1) ?_
   refine jl_bool (fun h16 => ?_) (fun h16 => ?_)
   ·skip
    refine jy (y_pick_true rfl rfl) ?_
    refine jz ?_
    refine jz ?_
    refine jz ?_
    refine jy (y_len_str rfl) ?_
    refine jy (y_leq rfl rfl) ?_
    refine jy (y_pick_true rfl rfl) ?_
    refine jz ?_
    refine jnt ?_
    refine jc_ret ?_
    refine jq_ret1 rfl rfl ?_
    exact fun _ hw => ⟨congrArg (fun b => Ending.returned (Value.bool b)) (by rw [Bool.eq_iff_iff, inFits_iff]; simp only [decide_eq_true_eq, decide_eq_false_iff_not, Bool.false_eq_true, false_iff] at *; omega), hw.ch⟩
   ·skip
    refine jy (y_pick_true rfl rfl) ?_
    refine jz ?_
    refine jsk ?_
    refine jsk ?_
    refine jsk ?_
    refine jsk ?_
    refine jy (y_pick_false rfl rfl) ?_
    refine jz ?_
    refine jnt ?_
    refine jc_ret ?_
    refine jq_ret1 rfl rfl ?_
    exact fun _ hw => ⟨congrArg (fun b => Ending.returned (Value.bool b)) (by rw [Bool.eq_iff_iff, inFits_iff]; simp only [decide_eq_true_eq, decide_eq_false_iff_not, Bool.false_eq_true, false_iff] at *; omega), hw.ch⟩
  ·skip
   refine jy (y_pick_true rfl rfl) ?_
   refine jz ?_
   refine jsk ?_
   refine jsk ?_
   refine jsk ?_
   refine jy (y_pick_false rfl rfl) ?_
   refine jz ?_
   refine jsk ?_
   refine jsk ?_
   refine jsk ?_
   refine jsk ?_
   refine jy (y_pick_false rfl rfl) ?_
   refine jz ?_
   refine jnt ?_
   refine jc_ret ?_
   refine jq_ret1 rfl rfl ?_
   exact fun _ hw => ⟨congrArg (fun b => Ending.returned (Value.bool b)) (by rw [Bool.eq_iff_iff, inFits_iff]; simp only [decide_eq_true_eq, decide_eq_false_iff_not, Bool.false_eq_true, false_iff] at *; omega), hw.ch⟩
 ·skip
  refine jz ?_
  refine jsk ?_
  refine jsk ?_
  refine jsk ?_
  refine jsk ?_
  refine jy (y_pick_false rfl rfl) ?_
  refine jz ?_
  refine jsk ?_
  refine jsk ?_
  refine jsk ?_
  refine jy (y_pick_false rfl rfl) ?_
  refine jz ?_
  refine jsk ?_
  refine jsk ?_
  refine jsk ?_
  refine jsk ?_
  refine jy (y_pick_false rfl rfl) ?_
  refine jz ?_
  refine jnt ?_
  refine jc_ret ?_
  refine jq_ret1 rfl rfl ?_
  exact fun _ hw => ⟨congrArg (fun b => Ending.returned (Value.bool b)) (by rw [Bool.eq_iff_iff, inFits_iff]; simp only [decide_eq_true_eq, decide_eq_false_iff_not, Bool.false_eq_true, false_iff] at *; omega), hw.ch⟩

theorem oddo_any (o : Oup) (w : World) :
  Calls Tryz.prog 55 #[.agg (Oup.c o).toArray] w fun e w' => e = .returned (.bool (oddO o)) ∧ Ch [] w w' := by
 refine calls_of (n := 6) (E := [(0, .agg (Oup.c o).toArray)]) (W := Hp w [] []) Tryz.func55 rfl rfl (Nat.le_of_ble_eq_true rfl) rfl (Hp.nil _ _) ?_
 refine jsr ?_
 refine jl_m rfl (by decide) rfl (m_box rfl rfl) (fun b1 => ?_)
 refine jz ?_
 refine jnt ?_
 refine jsr ?_
 refine jz ?_
 refine jpc (goes_func rfl) (fun w1 hw1 => cfits_any _ w1) ?_
 refine jz ?_
 refine jz ?_
 refine jnt ?_
 refine jc_ret ?_
 refine jq_ret1 rfl rfl ?_
 exact fun _ hw => ⟨congrArg (fun b => Ending.returned (Value.bool b)) (by simp_all [oddO]), hw.ch⟩

theorem idxO_any (ad : Option Addr) (l : List Oup) (c : Nat) (w : World) (hl : l.length ≤ 1000000000) (hE : ElAt w ad 9 (l.map Oup.c)) :
  Calls Tryz.prog 89 #[.slice ad l.length c, .func (.func 55) #[] #[]] w fun e w' => e = .returned (.int .i64 (idxF oddO l)) ∧ Ch [] w w' := by
 refine calls_of (n := 19) (E := [(0, .slice ad l.length c), (1, .func (.func 55) #[] #[])]) (W := Hp w [] []) Tryz.func89 rfl rfl (Nat.le_of_ble_eq_true rfl) rfl (Hp.nil _ _) ?_
 refine jsr ?_
 refine jz ?_
 refine jnt ?_
 refine jc_seq ?_
 refine jsr ?_
 refine jz ?_
 refine jy (y_len_slice rfl) ?_
 refine jz ?_
 refine jnt ?_
 refine jc_block ?_
 refine jc_loop (fun (i : Nat) => [(0, .slice ad l.length c), (1, .func (.func 55) #[] #[]), (7, .int .i64 l.length), (8, .int .i64 (i : Nat))]) (fun (i : Nat) => fun w' => (i ≤ l.length ∧ ∀ j z, j < i → l[j]? = some z → oddO z = false) ∧ Hp w [] [] w') (fun (i : Nat) => l.length - i) 0 ?_ ?_ ?_
 ·exact ⟨rfl, rfl, rfl, rfl, trivial⟩
 ·exact fun _ h => ⟨⟨by omega, fun j z hj _ => absurd hj (by omega)⟩, h⟩
 ·intro i
  refine jc_and (fun hi2 => ?_)
  obtain ⟨hi, hno⟩ := hi2
  refine jsr ?_
  refine jy (y_lss rfl rfl) ?_
  refine jl_prop (fun h9 => ?_) (fun h9 => ?_)
  ·first
   | (exfalso; omega)
   | (
    have hlt : i < l.length := by omega
    obtain ⟨bb, oo, ea, hold⟩ := hE.get hlt
    subst ea
    generalize hxe : l[i]'hlt = x at *
    refine jnt ?_
    refine jc_seq ?_
    refine jc_true rfl ?_
    refine jc_skip ?_
    refine jq_then ?_
    refine jc_seq ?_
    refine jc_block ?_
    refine jsr ?_
    refine jz ?_
    refine jz ?_
    refine jnt ?_
    refine jsr ?_
    refine jz ?_
    refine jz ?_
    refine jz ?_
    refine jy (y_indexAddr_slice (off := oo + i * 9) rfl rfl (by omega) (by omega) (by omega)) ?_
    refine jy (y_loadAgg_old rfl rfl hold (by simp)) ?_
    refine jl_pcall rfl (by decide) rfl (goes_value rfl rfl) (fun w1 hw1 => pcall hw1 (oddo_any x w1)) ?_
    refine jl_bool (fun h16 => ?_) (fun h16 => ?_)
    ·skip
     refine jnt ?_
     refine jc_true rfl ?_
     refine jsr ?_
     refine jz ?_
     refine jz ?_
     refine jnt ?_
     refine jc_ret ?_
     refine jq_block_ret ?_
     refine jq_then_ret ?_
     refine jq_then_ret ?_
     refine jq_block_ret ?_
     refine jq_then_ret ?_
     refine jq_ret1 rfl rfl ?_
     exact fun _ hw => ⟨by rw [idx_hit hno (by rw [List.getElem?_eq_getElem hlt, hxe]) h16], hw.ch⟩
    ·skip
     refine jnt ?_
     refine jc_false rfl ?_
     refine jc_skip ?_
     refine jq_block ?_
     refine jq_then ?_
     refine jc_region ?_
     refine jy (y_add_fits rfl rfl (by simp only [fits]; omega)) ?_
     refine jz ?_
     refine jl_nil ?_
     refine jq_round (i := i) (i + 1) ?_ ?_ ?_
     ·omega
     ·exact ⟨rfl, rfl, rfl, lk_int rfl (by omega), trivial⟩
     ·exact fun _ h => ⟨⟨by omega, fun j z hj hz => (Nat.lt_succ_iff_lt_or_eq.1 hj).elim (fun h2 => hno j z h2 hz) (fun e => by subst e; rw [List.getElem?_eq_getElem hlt, hxe] at hz; cases hz; exact h16)⟩, h⟩
    )
  ·first
   | (exfalso; omega)
   | (
    refine jnt ?_
    refine jc_seq ?_
    refine jc_false rfl ?_
    refine jc_exit ?_
    refine jq_then_exit ?_
    refine jq_then_exit ?_
    refine jq_hit ?_
    refine jq_then ?_
    refine jsr ?_
    refine jz ?_
    refine jnt ?_
    refine jc_ret ?_
    refine jq_ret1 rfl rfl ?_
    exact fun _ hw => ⟨by rw [idx_none (fun j z hj => hno j z (by omega))], hw.ch⟩
    )

theorem hasO_any (ad : Option Addr) (l : List Oup) (c : Nat) (w : World) (hl : l.length ≤ 1000000000) (hE : ElAt w ad 9 (l.map Oup.c)) :
  Calls Tryz.prog 58 #[.slice ad l.length c, .func (.func 55) #[] #[]] w fun e w' => e = .returned (.bool (l.any oddO)) ∧ Ch [] w w' := by
 refine calls_of (n := 9) (E := [(0, .slice ad l.length c), (1, .func (.func 55) #[] #[])]) (W := Hp w [] []) Tryz.func58 rfl rfl (Nat.le_of_ble_eq_true rfl) rfl (Hp.nil _ _) ?_
 refine jsr ?_
 refine jz ?_
 refine jnt ?_
 refine jsr ?_
 refine jz ?_
 refine jz ?_
 refine jpc (goes_func rfl) (fun w1 hw1 => idxO_any _ _ _ w1 (by omega) (hE.keep hw1)) ?_
 refine jy (y_geq rfl rfl) ?_
 refine jl_as (u := .bool (l.any oddO)) (congrArg Value.bool (idx_any oddO l)) ?_
 refine jz ?_
 refine jnt ?_
 refine jc_ret ?_
 refine jq_ret1 rfl rfl ?_
 exact fun _ hw => ⟨rfl, hw.ch⟩

theorem txright_any (t : Trx) (a1 : Option Addr) (c1 : Nat) (a2 : Option Addr) (c2 : Nat) (a3 : Option Addr) (c3 : Nat) (w : World) (h1 : ElAt w a1 4 (t.ins.map Inp.c)) (h2 : ElAt w a2 9 (t.outs.map Oup.c)) (h3 : ElAt w a3 10 (t.pf.wins.map Wn.c)) (l1 : t.ins.length ≤ 1000000000) (l2 : t.outs.length ≤ 1000000000) (l3 : t.pf.wins.length ≤ 1000000000) :
  Calls Tryz.prog 23 #[.agg (Trx.c t a1 c1 a2 c2 a3 c3).toArray] w fun e w' => e = .returned (.bool (txRight t)) ∧ Ch [] w w' := by
 refine calls_of (n := 50) (E := [(0, .agg (Trx.c t a1 c1 a2 c2 a3 c3).toArray)]) (W := Hp w [] []) Tryz.func23 rfl rfl (Nat.le_of_ble_eq_true rfl) rfl (Hp.nil _ _) ?_
 refine jsr ?_
 refine jl_m rfl (by decide) rfl (m_box rfl rfl) (fun b1 => ?_)
 refine jz ?_
 refine jnt ?_
 refine jsr ?_
 refine jl_m rfl (by decide) rfl (m_makeMap) (fun b7 => ?_)
 refine jz ?_
 refine jnt ?_
 refine jc_seq ?_
 refine jsr ?_
 refine jz ?_
 refine jz ?_
 refine jy (y_len_slice rfl) ?_
 refine jz ?_
 refine jnt ?_
 refine jc_block ?_
 refine jc_loop (fun (i : Nat) => [(1, .pointer (some ⟨b1, 0, none⟩)), (3, .map (some b7)), (9, .slice a1 t.ins.length c1), (10, .int .i64 t.ins.length), (11, .int .i64 (i : Nat))]) (fun (i : Nat) => fun w' => (i ≤ t.ins.length ∧ (∀ z ∈ t.ins.take i, inFits z = true) ∧ ((t.ins.take i).map Inp.pt).Nodup) ∧ Hp w [] [.obj b7 (setO (((t.ins.take i).map Inp.pt).map Pnt.v)), .cells b1 (Trx.c t a1 c1 a2 c2 a3 c3)] w') (fun (i : Nat) => t.ins.length - i) 0 ?_ ?_ ?_
 ·exact ⟨rfl, rfl, rfl, rfl, rfl, trivial⟩
 ·exact fun _ h => ⟨⟨by omega, by simp, by simp⟩, h⟩
 ·intro i
  refine jc_and (fun hi => ?_)
  refine jsr ?_
  refine jy (y_lss rfl rfl) ?_
  refine jl_prop (fun h12 => ?_) (fun h12 => ?_)
  ·first
   | (exfalso; omega)
   | (
    have hlt : i < t.ins.length := by omega
    obtain ⟨bb, oo, ea, hold⟩ := h1.get hlt
    subst ea
    generalize hxe : t.ins[i]'hlt = x at *
    refine jnt ?_
    refine jc_seq ?_
    refine jc_true rfl ?_
    refine jc_skip ?_
    refine jq_then ?_
    refine jc_seq ?_
    refine jc_block ?_
    refine jsr ?_
    refine jy (y_indexAddr_slice (off := oo + i * 4) rfl rfl (by omega) (by omega) (by omega)) ?_
    refine jy (y_loadAgg_old rfl rfl hold (by simp)) ?_
    refine jl_m rfl (by decide) rfl (m_alloc) (fun b5 => ?_)
    refine jst ?_
    refine jnt ?_
    refine jc_seq ?_
    refine jsr ?_
    refine jz ?_
    refine jpc (goes_func rfl) (fun w1 hw1 => infits_any _ w1) ?_
    refine jl_bool (fun h16 => ?_) (fun h16 => ?_)
    ·skip
     refine jz ?_
     refine jz ?_
     refine jz ?_
     refine jz ?_
     refine jz ?_
     refine jy (y_lookup (c := Pnt.v) rfl rfl (by first | exact mem0 | exact mem1 | exact mem2 | exact mem3 | exact mem4 | exact mem5)) ?_
     refine jl_bool (fun h22 => ?_) (fun h22 => ?_)
     ·skip
      refine jy (y_pick_false rfl rfl) ?_
      refine jnt ?_
      refine jc_true rfl ?_
      refine jsr ?_
      refine jz ?_
      refine jnt ?_
      refine jc_ret ?_
      refine jq_then_ret ?_
      refine jq_block_ret ?_
      refine jq_then_ret ?_
      refine jq_then_ret ?_
      refine jq_block_ret ?_
      refine jq_then_ret ?_
      refine jq_ret1 rfl rfl ?_
      exact fun _ hw => ⟨congrArg (fun b => Ending.returned (Value.bool b)) (by first | exact tx_no1 hlt hxe (by assumption) | exact tx_no2 hlt hxe (of_decide_eq_true h22)), hw.ch⟩
     ·skip
      refine jy (y_pick_false rfl rfl) ?_
      refine jnt ?_
      refine jc_false rfl ?_
      refine jc_skip ?_
      refine jq_then ?_
      refine jc_region ?_
      refine jz ?_
      refine jz ?_
      refine jz ?_
      refine jl_w rfl rfl (w_mapUpdate (c := Pnt.v) rfl rfl rfl (of_decide_eq_false h22) (by first | exact rep0 | exact rep1 | exact rep2 | exact rep3 | exact rep4)) ?_
      refine jl_nil ?_
      refine jq_block ?_
      refine jq_then ?_
      refine jc_region ?_
      refine jy (y_add_fits rfl rfl (by simp only [fits]; omega)) ?_
      refine jz ?_
      refine jl_nil ?_
      refine jq_round (i := i) (i + 1) ?_ ?_ ?_
      ·omega
      ·exact ⟨rfl, rfl, rfl, rfl, lk_int rfl (by omega), trivial⟩
      ·exact fun _ h => ⟨⟨by omega, all_take hlt hi.2.1 (by rw [hxe]; assumption), nd_next hlt hxe hi.2.2 (of_decide_eq_false h22)⟩, h.pop.cast (by rw [nd_take hlt, hxe])⟩
    ·skip
     refine jz ?_
     refine jz ?_
     refine jsk ?_
     refine jsk ?_
     refine jsk ?_
     refine jsk ?_
     refine jy (y_pick_true rfl rfl) ?_
     refine jnt ?_
     refine jc_true rfl ?_
     refine jsr ?_
     refine jz ?_
     refine jnt ?_
     refine jc_ret ?_
     refine jq_then_ret ?_
     refine jq_block_ret ?_
     refine jq_then_ret ?_
     refine jq_then_ret ?_
     refine jq_block_ret ?_
     refine jq_then_ret ?_
     refine jq_ret1 rfl rfl ?_
     exact fun _ hw => ⟨congrArg (fun b => Ending.returned (Value.bool b)) (by first | exact tx_no1 hlt hxe (by assumption) | exact tx_no2 hlt hxe (of_decide_eq_true h22)), hw.ch⟩
    )
  ·first
   | (exfalso; omega)
   | (
    refine jnt ?_
    refine jc_seq ?_
    refine jc_false rfl ?_
    refine jc_exit ?_
    refine jq_then_exit ?_
    refine jq_then_exit ?_
    refine jq_hit ?_
    refine jq_then ?_
    refine jsr ?_
    refine jz ?_
    refine jnt ?_
    refine jsr ?_
    refine jz ?_
    refine jz ?_
    refine jy (y_len_slice rfl) ?_
    refine jpc (goes_func rfl) (fun w1 hw1 => cwithin_any _ _ _ w1) ?_
    refine jl_bool (fun h31 => ?_) (fun h31 => ?_)
    ·skip
     refine jz ?_
     refine jz ?_
     refine jz ?_
     refine jy (y_len_slice rfl) ?_
     refine jpc (goes_func rfl) (fun w1 hw1 => cwithin_any _ _ _ w1) ?_
     refine jl_bool (fun h36 => ?_) (fun h36 => ?_)
     ·skip
      refine jy (y_pick_true rfl rfl) ?_
      refine jz ?_
      refine jz ?_
      refine jz ?_
      refine jz ?_
      refine jpc (goes_func rfl) (fun w1 hw1 => hasO_any a2 t.outs c2 w1 (by omega) (h2.keep hw1)) ?_
      refine jl_bool (fun h42 => ?_) (fun h42 => ?_)
      ·skip
       refine jz ?_
       refine jy (y_pick_true rfl rfl) ?_
       refine jz ?_
       refine jsk ?_
       refine jsk ?_
       refine jsk ?_
       refine jy (y_pick_false rfl rfl) ?_
       refine jz ?_
       refine jnt ?_
       refine jc_ret ?_
       refine jq_ret1 rfl rfl ?_
       exact fun _ hw => ⟨congrArg (fun b => Ending.returned (Value.bool b)) (by rw [Bool.eq_iff_iff, txRight_iff]; have hall : ∀ z ∈ t.ins, inFits z = true := (by have := hi.2.1; rwa [List.take_of_length_le (by omega)] at this); have hnd : (t.ins.map Inp.pt).Nodup := (by have := hi.2.2; rwa [List.take_of_length_le (by omega)] at this); simp only [decide_eq_true_eq, decide_eq_false_iff_not] at *; first | exact ⟨fun h => ⟨hall, hnd, by omega, by omega, odd_all (by assumption), h⟩, fun h => h.2.2.2.2.2⟩ | (simp only [Bool.false_eq_true, false_iff]; rintro ⟨b1, b2, b3, b4, b5, b6⟩; first | omega | exact odd_some (by assumption) b5)), hw.ch⟩
      ·skip
       refine jz ?_
       refine jy (y_pick_true rfl rfl) ?_
       refine jz ?_
       refine jz ?_
       refine jz ?_
       refine jpc (goes_func rfl) (fun w1 hw1 => right_any t.pf a3 c3 w1 (h3.keep hw1) (by omega)) ?_
       refine jy (y_pick_true rfl rfl) ?_
       refine jz ?_
       refine jnt ?_
       refine jc_ret ?_
       refine jq_ret1 rfl rfl ?_
       exact fun _ hw => ⟨congrArg (fun b => Ending.returned (Value.bool b)) (by rw [Bool.eq_iff_iff, txRight_iff]; have hall : ∀ z ∈ t.ins, inFits z = true := (by have := hi.2.1; rwa [List.take_of_length_le (by omega)] at this); have hnd : (t.ins.map Inp.pt).Nodup := (by have := hi.2.2; rwa [List.take_of_length_le (by omega)] at this); simp only [decide_eq_true_eq, decide_eq_false_iff_not] at *; first | exact ⟨fun h => ⟨hall, hnd, by omega, by omega, odd_all (by assumption), h⟩, fun h => h.2.2.2.2.2⟩ | (simp only [Bool.false_eq_true, false_iff]; rintro ⟨b1, b2, b3, b4, b5, b6⟩; first | omega | exact odd_some (by assumption) b5)), hw.ch⟩
     ·skip
      refine jy (y_pick_true rfl rfl) ?_
      refine jz ?_
      refine jsk ?_
      refine jsk ?_
      refine jsk ?_
      refine jsk ?_
      refine jsk ?_
      refine jy (y_pick_false rfl rfl) ?_
      refine jz ?_
      refine jsk ?_
      refine jsk ?_
      refine jsk ?_
      refine jy (y_pick_false rfl rfl) ?_
      refine jz ?_
      refine jnt ?_
      refine jc_ret ?_
      refine jq_ret1 rfl rfl ?_
      exact fun _ hw => ⟨congrArg (fun b => Ending.returned (Value.bool b)) (by rw [Bool.eq_iff_iff, txRight_iff]; have hall : ∀ z ∈ t.ins, inFits z = true := (by have := hi.2.1; rwa [List.take_of_length_le (by omega)] at this); have hnd : (t.ins.map Inp.pt).Nodup := (by have := hi.2.2; rwa [List.take_of_length_le (by omega)] at this); simp only [decide_eq_true_eq, decide_eq_false_iff_not] at *; first | exact ⟨fun h => ⟨hall, hnd, by omega, by omega, odd_all (by assumption), h⟩, fun h => h.2.2.2.2.2⟩ | (simp only [Bool.false_eq_true, false_iff]; rintro ⟨b1, b2, b3, b4, b5, b6⟩; first | omega | exact odd_some (by assumption) b5)), hw.ch⟩
    ·skip
     refine jz ?_
     refine jsk ?_
     refine jsk ?_
     refine jsk ?_
     refine jsk ?_
     refine jy (y_pick_false rfl rfl) ?_
     refine jz ?_
     refine jsk ?_
     refine jsk ?_
     refine jsk ?_
     refine jsk ?_
     refine jsk ?_
     refine jy (y_pick_false rfl rfl) ?_
     refine jz ?_
     refine jsk ?_
     refine jsk ?_
     refine jsk ?_
     refine jy (y_pick_false rfl rfl) ?_
     refine jz ?_
     refine jnt ?_
     refine jc_ret ?_
     refine jq_ret1 rfl rfl ?_
     exact fun _ hw => ⟨congrArg (fun b => Ending.returned (Value.bool b)) (by rw [Bool.eq_iff_iff, txRight_iff]; have hall : ∀ z ∈ t.ins, inFits z = true := (by have := hi.2.1; rwa [List.take_of_length_le (by omega)] at this); have hnd : (t.ins.map Inp.pt).Nodup := (by have := hi.2.2; rwa [List.take_of_length_le (by omega)] at this); simp only [decide_eq_true_eq, decide_eq_false_iff_not] at *; first | exact ⟨fun h => ⟨hall, hnd, by omega, by omega, odd_all (by assumption), h⟩, fun h => h.2.2.2.2.2⟩ | (simp only [Bool.false_eq_true, false_iff]; rintro ⟨b1, b2, b3, b4, b5, b6⟩; first | omega | exact odd_some (by assumption) b5)), hw.ch⟩
    )

theorem ccount_any (n : Int) (w : World) (hn : fits .i64 n) :
  Calls Tryz.prog 113 #[.int .i64 n] w fun e w' => e = .returned (.int .u64 (cntN n)) ∧ Ch [] w w' := by
 refine calls_of (n := 11) (E := [(0, .int .i64 n)]) (W := Hp w [] []) Tryz.func113 rfl rfl (Nat.le_of_ble_eq_true rfl) rfl (Hp.nil _ _) ?_
 refine jsr ?_
 refine jz ?_
 refine jnt ?_
 refine jsr ?_
 refine jz ?_
 refine jpc (goes_func rfl) (fun w1 hw1 => of_any n w1 hn) ?_
 refine jz ?_
 refine jz ?_
 refine jz ?_
 refine jz ?_
 refine jz ?_
 refine jnt ?_
 refine jsr ?_
 refine jz ?_
 refine jz ?_
 refine jnt ?_
 refine jc_ret ?_
 refine jq_ret1 rfl rfl ?_
 exact fun _ hw => ⟨rfl, hw.ch⟩

theorem putou_any (b : Nat) (x : WS) (o : Oup) (w : World) (hf : o.Fit) (hz : o.key.size ≤ 1000000000 ∧ o.gate.size ≤ 1000000000 ∧ o.anchor.size ≤ 1000000000 ∧ o.of.size ≤ 1000000000) (hx : x.1.size ≤ 1000000) (hA : HA.ok w (.cells b [.string (x).1, .int .i64 (x).2])) :
  Calls Tryz.prog 94 #[.pointer (some ⟨b, 0, none⟩), .agg (Oup.c o).toArray] w fun e w' => e = .returned (.tuple #[]) ∧ Upd w w' (.cells b [.string (x).1, .int .i64 (x).2]) (.cells b [.string (putOu x o).1, .int .i64 (putOu x o).2]) := by
 obtain ⟨hz1, hz2, hz3, hz4⟩ := hz
 refine calls_of (n := 48) (E := [(0, .pointer (some ⟨b, 0, none⟩)), (1, .agg (Oup.c o).toArray)]) (W := Hp w [b] [.cells b [.string (x).1, .int .i64 (x).2]]) Tryz.func94 rfl rfl (Nat.le_of_ble_eq_true rfl) rfl (Hp.start rfl hA) ?_
 refine jsr ?_
 refine jl_m rfl (by decide) rfl (m_box rfl rfl) (fun b3 => ?_)
 refine jnt ?_
 refine jsr ?_
 refine jz ?_
 refine jz ?_
 refine jz ?_
 refine juc (goes_func rfl) (fun w1 hw1 => wbyte_any b (x) (o.kind) hf.kind w1 (wz) hw1) ?_
 refine jnt ?_
 refine jsr ?_
 refine jz ?_
 refine jz ?_
 refine jz ?_
 refine juc (goes_func rfl) (fun w1 hw1 => wnum_any b (wByte (x) (o.kind)) (o.amount) hf.amount w1 (wz) hw1) ?_
 refine jnt ?_
 refine jsr ?_
 refine jz ?_
 refine jz ?_
 refine jz ?_
 refine juc (goes_func rfl) (fun w1 hw1 => whash_any b (wNum (wByte (x) (o.kind)) (o.amount)) (o.key) (by omega) w1 (wz) hw1) ?_
 refine jnt ?_
 refine jc_seq ?_
 refine jsr ?_
 refine jz ?_
 refine jz ?_
 refine jy (y_eql rfl rfl) ?_
 refine jl_prop (fun h18 => ?_) (fun h18 => ?_)
 ·first
  | (exfalso; omega)
  | (
   refine jnt ?_
   refine jc_true rfl ?_
   refine jc_ret ?_
   refine jq_then_ret ?_
   refine jq_ret0 rfl  ?_
   exact fun w' hw => ⟨rfl, by unfold putOu; rw [if_pos (by omega)]; exact (hw.part (.cons (by first | exact del0 | exact del1) .nil)).updd rfl⟩
   )
 ·first
  | (exfalso; omega)
  | (
   refine jnt ?_
   refine jc_false rfl ?_
   refine jc_skip ?_
   refine jq_then ?_
   refine jsr ?_
   refine jz ?_
   refine jz ?_
   refine jz ?_
   refine juc (goes_func rfl) (fun w1 hw1 => whash_any b (wHash (wNum (wByte (x) (o.kind)) (o.amount)) (o.key)) (o.gate) (by omega) w1 (wz) hw1) ?_
   refine jnt ?_
   refine jsr ?_
   refine jz ?_
   refine jz ?_
   refine jz ?_
   refine jpc (goes_func rfl) (fun w1 hw1 => ccount_any o.expiry w1 hf.expiry) ?_
   refine juc (goes_func rfl) (fun w1 hw1 => wnum_any b (wHash (wHash (wNum (wByte (x) (o.kind)) (o.amount)) (o.key)) (o.gate)) (cntN o.expiry) (cntN_fits hf.expiry) w1 (wz) hw1) ?_
   refine jnt ?_
   refine jc_seq ?_
   refine jsr ?_
   refine jz ?_
   refine jz ?_
   refine jy (y_eql rfl rfl) ?_
   refine jl_prop (fun h30 => ?_) (fun h30 => ?_)
   ·first
    | (exfalso; omega)
    | (
     refine jnt ?_
     refine jc_true rfl ?_
     refine jsr ?_
     refine jz ?_
     refine jz ?_
     refine jz ?_
     refine juc (goes_func rfl) (fun w1 hw1 => whash_any b (wNum (wHash (wHash (wNum (wByte (x) (o.kind)) (o.amount)) (o.key)) (o.gate)) (cntN o.expiry)) (o.of) (by omega) w1 (wz) hw1) ?_
     refine jnt ?_
     refine jc_ret ?_
     refine jq_then_ret ?_
     refine jq_ret0 rfl  ?_
     exact fun w' hw => ⟨rfl, by unfold putOu; rw [if_neg (by omega), if_pos (by omega)]; exact (hw.part (.cons (by first | exact del0 | exact del1) .nil)).updd rfl⟩
     )
   ·first
    | (exfalso; omega)
    | (
     refine jnt ?_
     refine jc_false rfl ?_
     refine jc_skip ?_
     refine jq_then ?_
     refine jsr ?_
     refine jz ?_
     refine jz ?_
     refine jz ?_
     refine juc (goes_func rfl) (fun w1 hw1 => whash_any b (wNum (wHash (wHash (wNum (wByte (x) (o.kind)) (o.amount)) (o.key)) (o.gate)) (cntN o.expiry)) (o.anchor) (by omega) w1 (wz) hw1) ?_
     refine jnt ?_
     refine jsr ?_
     refine jz ?_
     refine jz ?_
     refine jz ?_
     refine juc (goes_func rfl) (fun w1 hw1 => wnum_any b (wHash (wNum (wHash (wHash (wNum (wByte (x) (o.kind)) (o.amount)) (o.key)) (o.gate)) (cntN o.expiry)) (o.anchor)) (o.unit) hf.unit w1 (wz) hw1) ?_
     refine jnt ?_
     refine jc_region ?_
     refine jz ?_
     refine jz ?_
     refine jz ?_
     refine jpc (goes_func rfl) (fun w1 hw1 => ccount_any o.tokens w1 hf.tokens) ?_
     refine juc (goes_func rfl) (fun w1 hw1 => wnum_any b (wNum (wHash (wNum (wHash (wHash (wNum (wByte (x) (o.kind)) (o.amount)) (o.key)) (o.gate)) (cntN o.expiry)) (o.anchor)) (o.unit)) (cntN o.tokens) (cntN_fits hf.tokens) w1 (wz) hw1) ?_
     refine jl_nil ?_
     refine jq_end0 rfl ?_
     exact fun w' hw => ⟨rfl, by unfold putOu; rw [if_neg (by omega), if_neg (by omega)]; exact (hw.part (.cons (by first | exact del0 | exact del1) .nil)).updd rfl⟩
     )
   )

end Go.Proofs.YtomhcibbalhgkaaGreat