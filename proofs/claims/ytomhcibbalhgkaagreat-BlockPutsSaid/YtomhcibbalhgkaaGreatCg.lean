/- The walks of package coin, part seven: likeness. Written by program (walk.py) out of a table of contracts and invariants. -/
import Derived.Test.YtomhcibbalhgkaaGreatCf
namespace Go.Proofs.YtomhcibbalhgkaaGreat
open Go.RowKit
set_option maxRecDepth 100000
set_option maxHeartbeats 2000000
set_option linter.unusedVariables false
set_option linter.unusedSimpArgs false
attribute [local irreducible] Yields Makes Writes
theorem trx_eq {t u : Trx} : (t = u) ↔ (t.ins = u.ins ∧ t.outs = u.outs ∧ t.pf = u.pf) := by
  constructor
  · rintro rfl; exact ⟨rfl, rfl, rfl⟩
  · rintro ⟨h1, h2, h3⟩; cases t; cases u; simp_all

theorem cosame_any (t u : Trx) (a1 : Option Addr) (c1 : Nat) (a2 : Option Addr) (c2 : Nat) (a3 : Option Addr) (c3 : Nat) (e1 : Option Addr) (d1 : Nat) (e2 : Option Addr) (d2 : Nat) (e3 : Option Addr) (d3 : Nat) (w : World) (h1 : ElAt w a1 4 (t.ins.map Inp.c)) (h2 : ElAt w a2 9 (t.outs.map Oup.c)) (h3 : ElAt w a3 10 (t.pf.wins.map Wn.c)) (k1 : ElAt w e1 4 (u.ins.map Inp.c)) (k2 : ElAt w e2 9 (u.outs.map Oup.c)) (k3 : ElAt w e3 10 (u.pf.wins.map Wn.c)) (l1 : t.ins.length ≤ 1000000000) (l2 : t.outs.length ≤ 1000000000) (l3 : t.pf.wins.length ≤ 1000000000) (m1 : u.ins.length ≤ 1000000000) (m2 : u.outs.length ≤ 1000000000) (m3 : u.pf.wins.length ≤ 1000000000) :
  Calls Tryz.prog 48 #[.agg (Trx.c t a1 c1 a2 c2 a3 c3).toArray, .agg (Trx.c u e1 d1 e2 d2 e3 d3).toArray] w fun e w' => e = .returned (.bool (decide (t = u))) ∧ Ch [] w w' := by
 refine calls_of (n := 24) (E := [(0, .agg (Trx.c t a1 c1 a2 c2 a3 c3).toArray), (1, .agg (Trx.c u e1 d1 e2 d2 e3 d3).toArray)]) (W := Hp w [] []) Tryz.func48 rfl rfl (Nat.le_of_ble_eq_true rfl) rfl (Hp.nil _ _) ?_
 refine jsr ?_
 refine jl_m rfl (by decide) rfl (m_box rfl rfl) (fun b2 => ?_)
 refine jl_m rfl (by decide) rfl (m_box rfl rfl) (fun b3 => ?_)
 refine jz ?_
 refine jnt ?_
 refine jsr ?_
 refine jz ?_
 refine jz ?_
 refine jz ?_
 refine jz ?_
 refine jpc (goes_func rfl) (fun w1 hw1 => sameIn_any a1 e1 c1 d1 t.ins u.ins w1 (h1.keep hw1) (k1.keep hw1) l1 m1) ?_
 refine jl_bool (fun h9 => ?_) (fun h9 => ?_)
 ·skip
  refine jz ?_
  refine jz ?_
  refine jz ?_
  refine jz ?_
  refine jz ?_
  refine jpc (goes_func rfl) (fun w1 hw1 => sameOut_any a2 e2 c2 d2 t.outs u.outs w1 (h2.keep hw1) (k2.keep hw1) l2 m2) ?_
  refine jl_bool (fun h15 => ?_) (fun h15 => ?_)
  ·skip
   refine jy (y_pick_true rfl rfl) ?_
   refine jz ?_
   refine jz ?_
   refine jz ?_
   refine jz ?_
   refine jz ?_
   refine jpc (goes_func rfl) (fun w1 hw1 => same_any t.pf u.pf a3 e3 c3 d3 w1 (h3.keep hw1) (k3.keep hw1) l3 m3) ?_
   refine jy (y_pick_true rfl rfl) ?_
   refine jz ?_
   refine jnt ?_
   refine jc_ret ?_
   refine jq_ret1 rfl rfl ?_
   exact fun _ hw => ⟨congrArg (fun b => Ending.returned (Value.bool b)) (by rw [Bool.eq_iff_iff, decide_eq_true_eq, trx_eq]; simp only [pfSame, decide_eq_true_eq, decide_eq_false_iff_not, Bool.false_eq_true, false_iff] at *; first | exact ⟨fun h => ⟨by assumption, by assumption, h⟩, fun h => h.2.2⟩ | (rintro ⟨q1, q2, q3⟩; contradiction)), hw.ch⟩
  ·skip
   refine jy (y_pick_true rfl rfl) ?_
   refine jz ?_
   refine jsk ?_
   refine jsk ?_
   refine jsk ?_
   refine jsk ?_
   refine jsk ?_
   refine jy (y_pick_false rfl rfl) ?_
   refine jz ?_
   refine jnt ?_
   refine jc_ret ?_
   refine jq_ret1 rfl rfl ?_
   exact fun _ hw => ⟨congrArg (fun b => Ending.returned (Value.bool b)) (by rw [Bool.eq_iff_iff, decide_eq_true_eq, trx_eq]; simp only [pfSame, decide_eq_true_eq, decide_eq_false_iff_not, Bool.false_eq_true, false_iff] at *; first | exact ⟨fun h => ⟨by assumption, by assumption, h⟩, fun h => h.2.2⟩ | (rintro ⟨q1, q2, q3⟩; contradiction)), hw.ch⟩
 ·skip
  refine jz ?_
  refine jsk ?_
  refine jsk ?_
  refine jsk ?_
  refine jsk ?_
  refine jsk ?_
  refine jy (y_pick_false rfl rfl) ?_
  refine jz ?_
  refine jsk ?_
  refine jsk ?_
  refine jsk ?_
  refine jsk ?_
  refine jsk ?_
  refine jy (y_pick_false rfl rfl) ?_
  refine jz ?_
  refine jnt ?_
  refine jc_ret ?_
  refine jq_ret1 rfl rfl ?_
  exact fun _ hw => ⟨congrArg (fun b => Ending.returned (Value.bool b)) (by rw [Bool.eq_iff_iff, decide_eq_true_eq, trx_eq]; simp only [pfSame, decide_eq_true_eq, decide_eq_false_iff_not, Bool.false_eq_true, false_iff] at *; first | exact ⟨fun h => ⟨by assumption, by assumption, h⟩, fun h => h.2.2⟩ | (rintro ⟨q1, q2, q3⟩; contradiction)), hw.ch⟩

end Go.Proofs.YtomhcibbalhgkaaGreat