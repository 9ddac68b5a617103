/- The walks of the document's answer for coins, part four: the reading of a whole transaction; and of CoinGets. Written by program (walk.py) out of a table of contracts and invariants. -/
import Derived.Test.YtamlleachfngeaaRp
import Derived.Test.YtamlleachfngeaaMrtd
import Derived.Test.YtamlleachfngeaaCj
namespace Go.Proofs.Ytamlleachfngeaa
open Go.RowKit
set_option maxRecDepth 100000
set_option maxHeartbeats 4000000
set_option linter.unusedVariables false
set_option linter.unusedSimpArgs false
theorem rq5 {A A' B C D F G : HA} {H : List HA} : Rep A A' (B :: C :: D :: F :: G :: A :: H) (B :: C :: D :: F :: G :: A' :: H) := .tail (.tail (.tail (.tail (.tail .head))))
theorem dT_fit (S : ByteArray) : (dT S).Fit := by
  refine ⟨sgL_fit _ _ _ (fun i hi => ?_) _, fun o ho => ?_, pfDec_fit _⟩
  · have : i ∈ (cI (dC S)).1 := hi
    unfold cI at this
    exact rdMany_all (P := fun i : Inp => i.Fit) (fun y => rdIn_fit _ y) _ _ i this
  · have : o ∈ (cO (dC S)).1 := ho
    unfold cO at this
    exact rdMany_all (P := fun i : Oup => i.Fit) (fun y => rdOu_fit _ y) _ _ o this
attribute [local irreducible] dC dA dI dB dP dE coTrx

theorem eq_rin (m : Nat) (x y : Inp) (w : World) : (Op.equalIn (m + 3) 75 (.agg (Inp.c x).toArray) (.agg (Inp.c y).toArray)).run Try.prog w = .ok (decide (x = y)) w := by
  rw [run_equalIn_agg _ _ 75 _ _ (by kernel_rfl) (by kernel_rfl), show (Program.fieldsOf Try.prog 75).toList = [((fsOf (Try.prog.underlying 75)).getD 0 default), ((fsOf (Try.prog.underlying 75)).getD 1 default), ((fsOf (Try.prog.underlying 75)).getD 2 default)] from by kernel_rfl]
  refine Eq.trans (eqF_agg (by kernel_rfl) (T := 53) (by kernel_rfl) (off := 0) (by kernel_rfl) (by repeat constructor) (by repeat constructor) (eq_pnt m x.pt y.pt w) (eqF_cell (by kernel_rfl) (T := 3) (by kernel_rfl) (off := 2) (by kernel_rfl) rfl rfl (equalIn_int (m + 1) _ _ w) (eqF_cell (by kernel_rfl) (T := 9) (by kernel_rfl) (off := 3) (by kernel_rfl) rfl rfl (equalIn_str (m + 1) _ _ w) eqF_nil))) ?_
  congr 1
  rw [Bool.eq_iff_iff]
  cases x; cases y
  simp
theorem rcosame_any (t : Trx) (a1 : Option Addr) (c1 : Nat) (a2 : Option Addr) (c2 : Nat) (a3 : Option Addr) (c3 : Nat) (u : Trx) (e1 : Option Addr) (d1 : Nat) (e2 : Option Addr) (d2 : Nat) (e3 : Option Addr) (d3 : Nat) (w : World) (h1 : ElAt w a1 4 (t.ins.map Inp.c)) (h2 : ElAt w a2 9 (t.outs.map Oup.c)) (h3 : ElAt w a3 10 (t.pf.wins.map Wn.c)) (k1 : ElAt w e1 4 (u.ins.map Inp.c)) (k2 : ElAt w e2 9 (u.outs.map Oup.c)) (k3 : ElAt w e3 10 (u.pf.wins.map Wn.c)) (l1 : t.ins.length ≤ 1000000000) (l2 : t.outs.length ≤ 1000000000) (l3 : t.pf.wins.length ≤ 1000000000) (m1 : u.ins.length ≤ 1000000000) (m2 : u.outs.length ≤ 1000000000) (m3 : u.pf.wins.length ≤ 1000000000) :
  Calls Try.prog 10 #[.agg (Trx.c t a1 c1 a2 c2 a3 c3).toArray, .agg (Trx.c u e1 d1 e2 d2 e3 d3).toArray] w fun e w' => e = .returned (.bool (decide (t = u))) ∧ Ch [] w w' := by
 refine calls_of (n := 64) (E := [(0, .agg (Trx.c t a1 c1 a2 c2 a3 c3).toArray), (1, .agg (Trx.c u e1 d1 e2 d2 e3 d3).toArray)]) (W := Hp w [] []) Try.func10 rfl rfl (Nat.le_of_ble_eq_true rfl) rfl (Hp.nil _ _) ?_
 refine jsr ?_
 refine jl_m rfl (by decide) rfl (m_box rfl rfl) (fun b2 => ?_)
 refine jl_m rfl (by decide) rfl (m_box rfl rfl) (fun b3 => ?_)
 refine jz ?_
 refine jnt ?_
 refine jc_seq ?_
 refine jsr ?_
 refine jz ?_
 refine jz ?_
 refine jy (y_len_slice rfl) ?_
 refine jz ?_
 refine jz ?_
 refine jy (y_len_slice rfl) ?_
 refine jy (y_neq rfl rfl) ?_
 refine jl_prop (fun h13 => ?_) (fun h13 => ?_)
 ·first
  | (exfalso; omega)
  | (
   refine jz ?_
   refine jsk ?_
   refine jsk ?_
   refine jsk ?_
   refine jsk ?_
   refine jsk ?_
   refine jsk ?_
   refine jsk ?_
   refine jy (y_pick_true rfl rfl) ?_
   refine jnt ?_
   refine jc_true rfl ?_
   refine jsr ?_
   refine jz ?_
   refine jnt ?_
   refine jc_ret ?_
   refine jq_then_ret ?_
   refine jq_ret1 rfl rfl ?_
   exact fun _ hw => ⟨congrArg (fun b => Ending.returned (Value.bool b)) ((decide_eq_false (fun h => by subst h; omega)).symm), hw.ch⟩
   )
 ·first
  | (exfalso; omega)
  | (
   refine jz ?_
   refine jz ?_
   refine jz ?_
   refine jy (y_len_slice rfl) ?_
   refine jz ?_
   refine jz ?_
   refine jy (y_len_slice rfl) ?_
   refine jy (y_neq rfl rfl) ?_
   refine jl_prop (fun h21 => ?_) (fun h21 => ?_)
   ·first
    | (exfalso; omega)
    | (
     refine jy (y_pick_false rfl rfl) ?_
     refine jnt ?_
     refine jc_true rfl ?_
     refine jsr ?_
     refine jz ?_
     refine jnt ?_
     refine jc_ret ?_
     refine jq_then_ret ?_
     refine jq_ret1 rfl rfl ?_
     exact fun _ hw => ⟨congrArg (fun b => Ending.returned (Value.bool b)) ((decide_eq_false (fun h => by subst h; omega)).symm), hw.ch⟩
     )
   ·first
    | (exfalso; omega)
    | (
     refine jy (y_pick_false rfl rfl) ?_
     refine jnt ?_
     refine jc_false rfl ?_
     refine jc_skip ?_
     refine jq_then ?_
     refine jc_seq ?_
     refine jsr ?_
     refine jz ?_
     refine jnt ?_
     refine jc_block ?_
     refine jc_loop (fun (i : Nat) => [(2, .pointer (some ⟨b2, 0, none⟩)), (3, .pointer (some ⟨b3, 0, none⟩)), (5, .int .i64 (i : Nat))]) (fun (i : Nat) => fun w' => (i ≤ t.ins.length ∧ t.ins.take i = u.ins.take i) ∧ Hp w [] [.cells b3 (Trx.c u e1 d1 e2 d2 e3 d3), .cells b2 (Trx.c t a1 c1 a2 c2 a3 c3)] w') (fun (i : Nat) => t.ins.length - i) 0 ?_ ?_ ?_
     ·exact ⟨rfl, rfl, rfl, trivial⟩
     ·exact fun _ h => ⟨⟨by omega, rfl⟩, h⟩
     ·intro i
      refine jc_and (fun hi => ?_)
      refine jc_seq ?_
      refine jsr ?_
      refine jz ?_
      refine jz ?_
      refine jz ?_
      refine jy (y_len_slice rfl) ?_
      refine jy (y_lss rfl rfl) ?_
      refine jl_prop (fun h27 => ?_) (fun h27 => ?_)
      ·first
       | (exfalso; omega)
       | (
        have hlt : i < t.ins.length := by omega
        have hlq : i < u.ins.length := by omega
        obtain ⟨bb, oo, ea, hold⟩ := h1.get hlt
        obtain ⟨bq, oq, eq, holq⟩ := k1.get hlq
        subst ea
        subst eq
        generalize hxe : t.ins[i]'hlt = x at *
        generalize hye : u.ins[i]'hlq = y at *
        refine jnt ?_
        refine jc_true rfl ?_
        refine jc_skip ?_
        refine jq_then ?_
        refine jc_seq ?_
        refine jc_block ?_
        refine jc_seq ?_
        refine jc_draw (by kernel_rfl) (fun _ h => h.drew) ?_
        refine juz ?_
        refine juz ?_
        refine juz ?_
        refine juy (y_indexAddr_slice (off := oo + i * 4) rfl rfl (by omega) (by omega) (by omega)) ?_
        refine juy (y_loadAgg_old rfl rfl hold (by simp)) ?_
        refine juz ?_
        refine juz ?_
        refine juz ?_
        refine juy (y_indexAddr_slice (off := oq + i * 4) rfl rfl (by omega) (by omega) (by omega)) ?_
        refine juy (y_loadAgg_old rfl rfl holq (by simp)) ?_
        refine juy (y_neq_agg rfl rfl (by kernel_rfl) (fun w => eq_rin 9997 x y w)) ?_
        refine ju_bool (fun h40 => ?_) (fun h40 => ?_)
        ·skip
         refine ju_nil ?_
         refine jq_then ?_
         refine jc_true rfl ?_
         refine jsr ?_
         refine jz ?_
         refine jnt ?_
         refine jc_ret ?_
         refine jq_block_ret ?_
         refine jq_then_ret ?_
         refine jq_then_ret ?_
         refine jq_block_ret ?_
         refine jq_then_ret ?_
         refine jq_ret1 rfl rfl ?_
         exact fun _ hw => ⟨congrArg (fun b => Ending.returned (Value.bool b)) ((decide_eq_false (fun h => get_ne hlt hlq hxe hye (by first | assumption | simp_all) (congrArg Trx.ins h))).symm), hw.ch⟩
        ·skip
         refine ju_nil ?_
         refine jq_then ?_
         refine jc_false rfl ?_
         refine jc_skip ?_
         refine jq_block ?_
         refine jq_then ?_
         refine jc_region ?_
         refine jz ?_
         refine jy (y_add_fits rfl rfl (by simp only [fits]; omega)) ?_
         refine jz ?_
         refine jl_nil ?_
         refine jq_round (i := i) (i + 1) ?_ ?_ ?_
         ·omega
         ·exact ⟨rfl, rfl, lk_int rfl (by omega), trivial⟩
         ·exact fun _ h => ⟨⟨by omega, take_both hlt hlq hi.2 (by rw [hxe, hye]; first | assumption | simp_all)⟩, h⟩
        )
      ·first
       | (exfalso; omega)
       | (
        refine jnt ?_
        refine jc_false rfl ?_
        refine jc_exit ?_
        refine jq_then_exit ?_
        refine jq_then_exit ?_
        refine jq_hit ?_
        refine jq_then ?_
        refine jc_seq ?_
        refine jsr ?_
        refine jz ?_
        refine jnt ?_
        refine jc_block ?_
        refine jc_loop (fun (j : Nat) => [(2, .pointer (some ⟨b2, 0, none⟩)), (3, .pointer (some ⟨b3, 0, none⟩)), (6, .int .i64 (j : Nat))]) (fun (j : Nat) => fun w' => (j ≤ t.outs.length ∧ t.outs.take j = u.outs.take j) ∧ Hp w [] [.cells b3 (Trx.c u e1 d1 e2 d2 e3 d3), .cells b2 (Trx.c t a1 c1 a2 c2 a3 c3)] w') (fun (j : Nat) => t.outs.length - j) 0 ?_ ?_ ?_
        ·exact ⟨rfl, rfl, rfl, trivial⟩
        ·exact fun _ h => ⟨⟨by omega, rfl⟩, h⟩
        ·intro j
         refine jc_and (fun hj => ?_)
         refine jc_seq ?_
         refine jsr ?_
         refine jz ?_
         refine jz ?_
         refine jz ?_
         refine jy (y_len_slice rfl) ?_
         refine jy (y_lss rfl rfl) ?_
         refine jl_prop (fun h45 => ?_) (fun h45 => ?_)
         ·first
          | (exfalso; omega)
          | (
           have hlt : j < t.outs.length := by omega
           have hlq : j < u.outs.length := by omega
           obtain ⟨bb, oo, ea, hold⟩ := h2.get hlt
           obtain ⟨bq, oq, eq, holq⟩ := k2.get hlq
           subst ea
           subst eq
           generalize hxe : t.outs[j]'hlt = x at *
           generalize hye : u.outs[j]'hlq = y at *
           refine jnt ?_
           refine jc_true rfl ?_
           refine jc_skip ?_
           refine jq_then ?_
           refine jc_seq ?_
           refine jc_block ?_
           refine jc_seq ?_
           refine jc_draw (by kernel_rfl) (fun _ h => h.drew) ?_
           refine juz ?_
           refine juz ?_
           refine juz ?_
           refine juy (y_indexAddr_slice (off := oo + j * 9) rfl rfl (by omega) (by omega) (by omega)) ?_
           refine juy (y_loadAgg_old rfl rfl hold (by simp)) ?_
           refine juz ?_
           refine juz ?_
           refine juz ?_
           refine juy (y_indexAddr_slice (off := oq + j * 9) rfl rfl (by omega) (by omega) (by omega)) ?_
           refine juy (y_loadAgg_old rfl rfl holq (by simp)) ?_
           refine juy (y_neq_agg rfl rfl (by kernel_rfl) (fun w => eq_rou 9998 x y w)) ?_
           refine ju_bool (fun h58 => ?_) (fun h58 => ?_)
           ·skip
            refine ju_nil ?_
            refine jq_then ?_
            refine jc_true rfl ?_
            refine jsr ?_
            refine jz ?_
            refine jnt ?_
            refine jc_ret ?_
            refine jq_block_ret ?_
            refine jq_then_ret ?_
            refine jq_then_ret ?_
            refine jq_block_ret ?_
            refine jq_then_ret ?_
            refine jq_ret1 rfl rfl ?_
            exact fun _ hw => ⟨congrArg (fun b => Ending.returned (Value.bool b)) ((decide_eq_false (fun h => get_ne hlt hlq hxe hye (by first | assumption | simp_all) (congrArg Trx.outs h))).symm), hw.ch⟩
           ·skip
            refine ju_nil ?_
            refine jq_then ?_
            refine jc_false rfl ?_
            refine jc_skip ?_
            refine jq_block ?_
            refine jq_then ?_
            refine jc_region ?_
            refine jz ?_
            refine jy (y_add_fits rfl rfl (by simp only [fits]; omega)) ?_
            refine jz ?_
            refine jl_nil ?_
            refine jq_round (i := j) (j + 1) ?_ ?_ ?_
            ·omega
            ·exact ⟨rfl, rfl, lk_int rfl (by omega), trivial⟩
            ·exact fun _ h => ⟨⟨by omega, take_both hlt hlq hj.2 (by rw [hxe, hye]; first | assumption | simp_all)⟩, h⟩
           )
         ·first
          | (exfalso; omega)
          | (
           refine jnt ?_
           refine jc_false rfl ?_
           refine jc_exit ?_
           refine jq_then_exit ?_
           refine jq_then_exit ?_
           refine jq_hit ?_
           refine jq_then ?_
           refine jsr ?_
           refine jz ?_
           refine jz ?_
           refine jz ?_
           refine jz ?_
           refine jpc (goes_func rfl) (fun w1 hw1 => rsame_any t.pf u.pf a3 e3 c3 d3 w1 (h3.keep hw1) (k3.keep hw1) l3 m3) ?_
           refine jz ?_
           refine jnt ?_
           refine jc_ret ?_
           refine jq_ret1 rfl rfl ?_
           exact fun _ hw => ⟨congrArg (fun b => Ending.returned (Value.bool b)) (by have q1 : t.ins = u.ins := (by have := hi.2; rwa [List.take_of_length_le (by omega), List.take_of_length_le (by omega)] at this); have q2 : t.outs = u.outs := (by have := hj.2; rwa [List.take_of_length_le (by omega), List.take_of_length_le (by omega)] at this); rw [Bool.eq_iff_iff, decide_eq_true_eq, trx_eq]; unfold pfSame; rw [decide_eq_true_eq]; exact ⟨fun h => ⟨q1, q2, h⟩, fun h => h.2.2⟩), hw.ch⟩
           )
        )
     )
   )

theorem rtxdec_any (S : ByteArray) (w : World) (hS : S.size ≤ 1000000000) :
  Calls Try.prog 9 #[.string S] w fun e w' => ∃ pr : (Option Addr × Nat) × (Option Addr × Nat) × (Option Addr × Nat), e = .returned (.tuple #[.agg (Trx.c (txDec S) pr.1.1 pr.1.2 pr.2.1.1 pr.2.1.2 pr.2.2.1 pr.2.2.2).toArray, .int .i64 (txErr S)]) ∧ Hp w [] [.row pr.1.1 ((txDec S)).ins.length pr.1.2 75 4 (((txDec S)).ins.flatMap Inp.c), .row pr.2.1.1 ((txDec S)).outs.length pr.2.1.2 79 9 (((txDec S)).outs.flatMap Oup.c), .row pr.2.2.1 ((txDec S)).pf.wins.length pr.2.2.2 121 10 (((txDec S)).pf.wins.flatMap Wn.c)] w' := by
 have hcl := coLens (dC S)
 have h35 := dE35 S
 refine calls_of (n := 86) (E := [(0, .string S)]) (W := Hp w [] []) Try.func9 rfl rfl (Nat.le_of_ble_eq_true rfl) rfl (Hp.nil _ _) ?_
 refine jsr ?_
 refine jl_m rfl (by decide) rfl (m_alloc) (fun b2 => ?_)
 refine jz ?_
 refine jnt ?_
 refine jsr ?_
 refine jz ?_
 refine jy (y_build (Built.cell rfl rfl rfl (by repeat constructor) Built.nil)) ?_
 refine jl_m rfl (by decide) rfl (m_box rfl rfl) (fun br => ?_)
 refine jz ?_
 refine jnt ?_
 refine jc_seq ?_
 refine jc_world (fun _ h => h.cast (H' := [.cells br [.string S, .int .i64 ((r00).1 : Nat), .int .i64 (r00).2], .cells b2 [.slice none (0) 0, .slice none (0) 0, .int .u64 0, .string ⟨#[]⟩, .string ⟨#[]⟩, .slice none 0 0]]) rfl) ?_
 refine jc_region ?_
 refine jz ?_
 refine juc (goes_func rfl) (fun w1 hw1 => qblob_any br S r00 4096 w1 hS (r00_ok S) hw1) ?_
 refine jl_as (u := .string (dC S)) (congrArg Value.string (dC_eq S)) ?_
 refine jz ?_
 refine jnt ?_
 refine jc_seq ?_
 refine jc_seq ?_
 refine jc_world (fun _ h => h.cast (H' := [.cells br [.string S, .int .i64 ((dA S).1 : Nat), .int .i64 (dA S).2], .cells b2 [.slice none (0) 0, .slice none (0) 0, .int .u64 0, .string ⟨#[]⟩, .string ⟨#[]⟩, .slice none 0 0]]) (by rw [← dA_eq])) ?_
 refine jc_region ?_
 refine jz ?_
 refine jz ?_
 refine jz ?_
 refine jz ?_
 refine jy (y_neq rfl rfl) ?_
 refine jl_prop (fun h21 => ?_) (fun h21 => ?_)
 ·first
  | (exfalso; omega)
  | (
   refine jnt ?_
   refine jc_true rfl ?_
   refine jc_seq ?_
   refine jc_sched 6 [(0, true), (1, true), (2, true), (3, true), (4, true), (5, false)] rfl (by kernel_rfl) (fun _ _ _ _ h => h) (fun _ h => h.drew) ?_
   simp only [pickO, nthO, List.drop_succ_cons, List.drop_zero]
   refine jky (y_build Built.nil) ?_
   refine jkz ?_
   refine jkz ?_
   refine jkz ?_
   refine jkz ?_
   refine js_w rfl rfl (w_storeAgg rfl rfl rfl rfl (by first | exact rep0 | exact rep1 | exact rep2 | exact rep3 | exact rep4 | exact rep5) (by repeat constructor)) (by intro _ h; first | exact h | exact h.pop | exact h.pop.pop | exact h.pop.pop.pop | exact h.pop.pop.pop.pop | exact h.pop.pop.pop.pop.pop | exact h.pop.pop.pop.pop.pop.pop | exact h.part .nil) ?_
   refine js_nil ?_
   refine jz ?_
   refine jnt ?_
   refine jc_ret ?_
   refine jq_then_ret ?_
   refine jq_res (.inl rfl) rfl (.cell rfl (by first | exact ld_agg (by first | exact mem0 | exact mem1 | exact mem2 | exact mem3 | exact mem4 | exact mem5) (by repeat constructor) | exact ld_agg (by first | exact mem0 | exact mem1 | exact mem2 | exact mem3 | exact mem4 | exact mem5) (by assumption)) (.tmp rfl .nil)) ?_
   exact fun _ hw => (by have ht := ta (S := S) (by omega); have hz : txErr S ≠ 0 := (by rw [ht]; exact (by omega)); have hd := dec_zero hz; exact ⟨((none, 0), (none, 0), (none, 0)), by rw [ht, hd]; rfl, by rw [hd]; exact (((Hp.of_ch hw.ch).nilrow 121 10).nilrow 79 9).nilrow 75 4⟩)
   )
 ·first
  | (exfalso; omega)
  | (
   refine jnt ?_
   refine jc_false rfl ?_
   refine jc_skip ?_
   refine jq_then ?_
   refine jc_seq ?_
   refine jsr ?_
   refine jz ?_
   refine jy (y_seql rfl rfl) ?_
   refine jl_prop (fun h28 => ?_) (fun h28 => ?_)
   ·skip
    refine jnt ?_
    refine jc_true rfl ?_
    refine jsr ?_
    refine jy (y_build Built.nil) ?_
    refine jst ?_
    refine jz ?_
    refine jnt ?_
    refine jc_ret ?_
    refine jq_then_ret ?_
    refine jq_res (.inl rfl) rfl (.cell rfl (by first | exact ld_agg (by first | exact mem0 | exact mem1 | exact mem2 | exact mem3 | exact mem4 | exact mem5) (by repeat constructor) | exact ld_agg (by first | exact mem0 | exact mem1 | exact mem2 | exact mem3 | exact mem4 | exact mem5) (by assumption)) (.tmp rfl .nil)) ?_
    exact fun _ hw => (by have ht := tb (S := S) (by omega) (by assumption); have hz : txErr S ≠ 0 := (by rw [ht]; exact (by decide)); have hd := dec_zero hz; exact ⟨((none, 0), (none, 0), (none, 0)), by rw [ht, hd]; rfl, by rw [hd]; exact (((Hp.of_ch hw.ch).nilrow 121 10).nilrow 79 9).nilrow 75 4⟩)
   ·skip
    refine jnt ?_
    refine jc_false rfl ?_
    refine jc_skip ?_
    refine jq_then ?_
    refine jsr ?_
    refine jz ?_
    refine jl_gcall2 rfl (by decide) rfl (goes_func rfl) (fun w1 hw1 => rcore_any (dC S) w1 (dC_small S)) (fun pr => ?_)
    refine jz ?_
    refine jz ?_
    refine jz ?_
    refine jl_m rfl (by decide) rfl (m_alloc) (fun b6 => ?_)
    refine jst ?_
    refine jz ?_
    refine jnt ?_
    refine jc_seq ?_
    refine jc_seq ?_
    obtain ⟨⟨a1, c1⟩, ⟨a2, c2⟩⟩ := pr
    refine jc_world (fun _ h => h.cast (H' := [.cells b6 [.slice a1 (coTrx (dC S)).ins.length c1, .slice a2 (coTrx (dC S)).outs.length c2, .int .u64 0, .string ⟨#[]⟩, .string ⟨#[]⟩, .slice none 0 0], .row a1 (coTrx (dC S)).ins.length c1 75 4 (((coTrx (dC S)).ins).flatMap Inp.c), .row a2 (coTrx (dC S)).outs.length c2 79 9 ((coTrx (dC S)).outs.flatMap Oup.c), .cells br [.string S, .int .i64 ((dA S).1 : Nat), .int .i64 (dA S).2], .cells b2 [.slice none (0) 0, .slice none (0) 0, .int .u64 0, .string ⟨#[]⟩, .string ⟨#[]⟩, .slice none 0 0]]) (by simp only [coPf]; rfl)) ?_
    refine jc_region ?_
    refine jz ?_
    refine jy (y_neq rfl rfl) ?_
    refine jl_prop (fun h36 => ?_) (fun h36 => ?_)
    ·first
     | (exfalso; omega)
     | (
      refine jnt ?_
      refine jc_true rfl ?_
      refine jsr ?_
      refine jy (y_build Built.nil) ?_
      refine jz ?_
      refine jst ?_
      refine jz ?_
      refine jnt ?_
      refine jc_ret ?_
      refine jq_then_ret ?_
      refine jq_res (.inl rfl) rfl (.cell rfl (by first | exact ld_agg (by first | exact mem0 | exact mem1 | exact mem2 | exact mem3 | exact mem4 | exact mem5) (by repeat constructor) | exact ld_agg (by first | exact mem0 | exact mem1 | exact mem2 | exact mem3 | exact mem4 | exact mem5) (by assumption)) (.tmp rfl .nil)) ?_
      exact fun _ hw => (by have ht := te8 (S := S) (by assumption) (by assumption); have hz : txErr S ≠ 0 := (by rw [ht]; exact (by assumption)); have hd := dec_zero hz; exact ⟨((none, 0), (none, 0), (none, 0)), by rw [ht, hd]; rfl, by rw [hd]; exact (((Hp.of_ch hw.ch).nilrow 121 10).nilrow 79 9).nilrow 75 4⟩)
      )
    ·first
     | (exfalso; omega)
     | (
      refine jnt ?_
      refine jc_false rfl ?_
      refine jc_skip ?_
      refine jq_then ?_
      refine jc_seq ?_
      refine jsr ?_
      refine jz ?_
      refine jnt ?_
      refine jc_block ?_
      refine jc_loop (fun (i : Nat) => [(2, .pointer (some ⟨b2, 0, none⟩)), (4, .pointer (some ⟨br, 0, none⟩)), (6, .pointer (some ⟨b6, 0, none⟩)), (8, .int .i64 (i : Nat))]) (fun (i : Nat) => fun w' => i ≤ (coTrx (dC S)).ins.length ∧ Hp w [] [.cells b6 [.slice a1 (coTrx (dC S)).ins.length c1, .slice a2 (coTrx (dC S)).outs.length c2, .int .u64 0, .string ⟨#[]⟩, .string ⟨#[]⟩, .slice none 0 0], .row a1 (coTrx (dC S)).ins.length c1 75 4 ((sgL S (dA S) (coTrx (dC S)).ins i).flatMap Inp.c), .row a2 (coTrx (dC S)).outs.length c2 79 9 ((coTrx (dC S)).outs.flatMap Oup.c), .cells br [.string S, .int .i64 ((sgX S (dA S) i).1 : Nat), .int .i64 (sgX S (dA S) i).2], .cells b2 [.slice none (0) 0, .slice none (0) 0, .int .u64 0, .string ⟨#[]⟩, .string ⟨#[]⟩, .slice none 0 0]] w') (fun (i : Nat) => (coTrx (dC S)).ins.length - i) 0 ?_ ?_ ?_
      ·exact ⟨rfl, rfl, rfl, rfl, trivial⟩
      ·exact fun _ h => ⟨by omega, h⟩
      ·intro i
       refine jc_and (fun hi => ?_)
       refine jc_seq ?_
       refine jsr ?_
       refine jz ?_
       refine jz ?_
       refine jz ?_
       refine jy (y_len_slice rfl) ?_
       refine jy (y_lss rfl rfl) ?_
       refine jl_prop (fun h43 => ?_) (fun h43 => ?_)
       ·first
        | (exfalso; omega)
        | (
         refine jnt ?_
         refine jc_true rfl ?_
         refine jc_skip ?_
         refine jq_then ?_
         refine jc_seq ?_
         refine jc_block ?_
         have hlt : i < (coTrx (dC S)).ins.length := by omega
         refine jc_pure (p := ∃ b, a1 = some ⟨b, 0, none⟩) (fun w h => row_some (h.get (A := .row a1 (coTrx (dC S)).ins.length c1 75 4 ((sgL S (dA S) (coTrx (dC S)).ins i).flatMap Inp.c)) mem1) (by omega)) (fun hb => ?_)
         obtain ⟨bb, rfl⟩ := hb
         refine jc_schedC (Hp w [] [.cells b6 [.slice (some ⟨bb, 0, none⟩) (coTrx (dC S)).ins.length c1, .slice a2 (coTrx (dC S)).outs.length c2, .int .u64 0, .string ⟨#[]⟩, .string ⟨#[]⟩, .slice none 0 0]]) 7 [(0, true), (1, true), (2, true), (3, true), (4, false), (5, true), (6, true)] rfl (by kernel_rfl) (fun _ _ _ _ h => h) (fun _ h => (h.part (.cons (by first | exact del0 | exact del1) .nil)).drew) (fun _ h => h.drew) ?_
         simp only [pickO, nthO, List.drop_succ_cons, List.drop_zero]
         refine jkz ?_
         refine jkz ?_
         refine jkz ?_
         refine jkz ?_
         refine js_ucallH rfl (by decide) rfl (goes_func rfl) (by rfl) (fun w1 hw1 => qblob_any br S (sgX S (dA S) i) 400 w1 hS (sgX_ok (dA_ok S) i) (hw1.get mem3)) (by first | exact rep0 | exact rep1 | exact rep2 | exact rep3 | exact rep4 | exact rep5) (by intro _ h; exact h.part (.cons (by first | exact del0 | exact del1) .nil)) ?_
         refine jky (y_indexAddr_slice (off := i * 4) rfl rfl (by omega) (by omega) (by omega)) ?_
         refine jkz ?_
         refine js_nil ?_
         refine jl_w rfl rfl (w_store_row rfl rfl rfl (by rw [flat_length, sgL_length]; omega) rep1) ?_
         refine jl_nil ?_
         refine jq_block ?_
         refine jq_then ?_
         refine jc_region ?_
         refine jz ?_
         refine jy (y_add_fits rfl rfl (by simp only [fits]; omega)) ?_
         refine jz ?_
         refine jl_nil ?_
         refine jq_round (i := i) (i + 1) ?_ ?_ ?_
         ·omega
         ·exact ⟨rfl, rfl, rfl, lk_int rfl (by omega), trivial⟩
         ·exact fun _ h => ⟨by omega, h.cast (by rw [sg_next hlt]; rfl)⟩
         )
       ·first
        | (exfalso; omega)
        | (
         refine jnt ?_
         refine jc_false rfl ?_
         refine jc_exit ?_
         refine jq_then_exit ?_
         refine jq_then_exit ?_
         refine jq_hit ?_
         refine jq_then ?_
         refine jc_seq ?_
         have hie : i = (coTrx (dC S)).ins.length := by omega
         refine jc_world (fun _ h => h.cast (H' := [.cells b6 [.slice a1 (coTrx (dC S)).ins.length c1, .slice a2 (coTrx (dC S)).outs.length c2, .int .u64 0, .string ⟨#[]⟩, .string ⟨#[]⟩, .slice none 0 0], .row a1 (coTrx (dC S)).ins.length c1 75 4 ((dI S).flatMap Inp.c), .row a2 (coTrx (dC S)).outs.length c2 79 9 ((coTrx (dC S)).outs.flatMap Oup.c), .cells br [.string S, .int .i64 ((dB S).1 : Nat), .int .i64 (dB S).2], .cells b2 [.slice none (0) 0, .slice none (0) 0, .int .u64 0, .string ⟨#[]⟩, .string ⟨#[]⟩, .slice none 0 0]]) (by subst hie; rw [dI_eq, dB_eq])) ?_
         refine jc_region ?_
         refine jz ?_
         refine juc (goes_func rfl) (fun w1 hw1 => qblob_any br S (dB S) 4096 w1 hS (dB_ok S) hw1) ?_
         refine jl_as (u := .string (dP S)) (congrArg Value.string (dP_eq S)) ?_
         refine jz ?_
         refine jnt ?_
         refine jc_seq ?_
         refine jc_seq ?_
         refine jc_world (fun _ h => h.cast (H' := [.cells b6 [.slice a1 (coTrx (dC S)).ins.length c1, .slice a2 (coTrx (dC S)).outs.length c2, .int .u64 0, .string ⟨#[]⟩, .string ⟨#[]⟩, .slice none 0 0], .row a1 (coTrx (dC S)).ins.length c1 75 4 ((dI S).flatMap Inp.c), .row a2 (coTrx (dC S)).outs.length c2 79 9 ((coTrx (dC S)).outs.flatMap Oup.c), .cells br [.string S, .int .i64 ((dE S).1 : Nat), .int .i64 (dE S).2], .cells b2 [.slice none (0) 0, .slice none (0) 0, .int .u64 0, .string ⟨#[]⟩, .string ⟨#[]⟩, .slice none 0 0]]) (by rw [← dE_eq])) ?_
         refine jc_region ?_
         refine jz ?_
         refine jz ?_
         refine jz ?_
         refine jz ?_
         refine jy (y_neq rfl rfl) ?_
         refine jl_prop (fun h59 => ?_) (fun h59 => ?_)
         ·first
          | (exfalso; omega)
          | (
           refine jnt ?_
           refine jc_true rfl ?_
           refine jc_seq ?_
           refine jc_sched 6 [(0, true), (1, true), (2, true), (3, true), (4, true), (5, false)] rfl (by kernel_rfl) (fun _ _ _ _ h => h) (fun _ h => h.drew) ?_
           simp only [pickO, nthO, List.drop_succ_cons, List.drop_zero]
           refine jky (y_build Built.nil) ?_
           refine jkz ?_
           refine jkz ?_
           refine jkz ?_
           refine jkz ?_
           refine js_w rfl rfl (w_storeAgg rfl rfl rfl rfl (by first | exact rep0 | exact rep1 | exact rep2 | exact rep3 | exact rep4 | exact rep5) (by repeat constructor)) (by intro _ h; first | exact h | exact h.pop | exact h.pop.pop | exact h.pop.pop.pop | exact h.pop.pop.pop.pop | exact h.pop.pop.pop.pop.pop | exact h.pop.pop.pop.pop.pop.pop | exact h.part .nil) ?_
           refine js_nil ?_
           refine jz ?_
           refine jnt ?_
           refine jc_ret ?_
           refine jq_then_ret ?_
           refine jq_res (.inl rfl) rfl (.cell rfl (by first | exact ld_agg (by first | exact mem0 | exact mem1 | exact mem2 | exact mem3 | exact mem4 | exact mem5) (by repeat constructor) | exact ld_agg (by first | exact mem0 | exact mem1 | exact mem2 | exact mem3 | exact mem4 | exact mem5) (by assumption)) (.tmp rfl .nil)) ?_
           exact fun _ hw => (by have ht := (te17 (S := S) (by assumption) (by omega) (by rw [endE_bad (by omega)]; omega)).trans (endE_bad (by omega)); have hz : txErr S ≠ 0 := (by rw [ht]; exact (by omega)); have hd := dec_zero hz; exact ⟨((none, 0), (none, 0), (none, 0)), by rw [ht, hd]; rfl, by rw [hd]; exact (((Hp.of_ch hw.ch).nilrow 121 10).nilrow 79 9).nilrow 75 4⟩)
           )
         ·first
          | (exfalso; omega)
          | (
           refine jnt ?_
           refine jc_false rfl ?_
           refine jc_skip ?_
           refine jq_then ?_
           refine jsr ?_
           refine jz ?_
           refine jl_fcall rfl (by decide) rfl (goes_func rfl) (fun w1 hw1 => rdec_any (dP S) w1 (dP_small S)) (fun pq => ?_)
           refine jz ?_
           refine jz ?_
           refine jz ?_
           refine jl_m rfl (by decide) rfl (m_alloc) (fun b10 => ?_)
           refine jst ?_
           refine jz ?_
           refine jnt ?_
           refine jc_seq ?_
           refine jc_seq ?_
           obtain ⟨a3, c3⟩ := pq
           refine jc_world (fun _ h => h.part (F := [.cells b10 (Pf.c (pfDec (dP S)) a3 c3), .row a3 (pfDec (dP S)).wins.length c3 121 10 ((pfDec (dP S)).wins.flatMap Wn.c), .cells b6 [.slice a1 (coTrx (dC S)).ins.length c1, .slice a2 (coTrx (dC S)).outs.length c2, .int .u64 0, .string ⟨#[]⟩, .string ⟨#[]⟩, .slice none 0 0], .cells b2 [.slice none (0) 0, .slice none (0) 0, .int .u64 0, .string ⟨#[]⟩, .string ⟨#[]⟩, .slice none 0 0], .cells br [.string S, .int .i64 ((dE S).1 : Nat), .int .i64 (dE S).2], .row a1 (coTrx (dC S)).ins.length c1 75 4 ((dI S).flatMap Inp.c), .row a2 (coTrx (dC S)).outs.length c2 79 9 ((coTrx (dC S)).outs.flatMap Oup.c)]) (.cons del0 (.cons del0 (.cons del0 (.cons del3 (.cons del2 (.cons del0 (.cons del0 .nil)))))))) ?_
           refine jc_region ?_
           refine jz ?_
           refine jy (y_neq rfl rfl) ?_
           refine jl_prop (fun h71 => ?_) (fun h71 => ?_)
           ·first
            | (exfalso; omega)
            | (
             refine jnt ?_
             refine jc_true rfl ?_
             refine jsr ?_
             refine jy (y_build Built.nil) ?_
             refine jz ?_
             refine jst ?_
             refine jz ?_
             refine jnt ?_
             refine jc_ret ?_
             refine jq_then_ret ?_
             refine jq_res (.inl rfl) rfl (.cell rfl (by first | exact ld_agg (by first | exact mem0 | exact mem1 | exact mem2 | exact mem3 | exact mem4 | exact mem5) (by repeat constructor) | exact ld_agg (by first | exact mem0 | exact mem1 | exact mem2 | exact mem3 | exact mem4 | exact mem5) (by assumption)) (.tmp rfl .nil)) ?_
             exact fun _ hw => (by have ht := te20 (S := S) (by assumption) (by omega) (endE_ok (by omega)) (by assumption); have hz : txErr S ≠ 0 := (by rw [ht]; exact (by assumption)); have hd := dec_zero hz; exact ⟨((none, 0), (none, 0), (none, 0)), by rw [ht, hd]; rfl, by rw [hd]; exact (((Hp.of_ch hw.ch).nilrow 121 10).nilrow 79 9).nilrow 75 4⟩)
             )
           ·first
            | (exfalso; omega)
            | (
             refine jnt ?_
             refine jc_false rfl ?_
             refine jc_skip ?_
             refine jq_then ?_
             refine jsr ?_
             refine jz ?_
             refine jz ?_
             refine jst ?_
             refine jnt ?_
             refine jc_seq ?_
             refine jc_seq ?_
             refine jc_world (fun _ h => h.cast (H' := [.cells b10 (Pf.c (pfDec (dP S)) a3 c3), .row a3 (dT S).pf.wins.length c3 121 10 ((dT S).pf.wins.flatMap Wn.c), .cells b6 (Trx.c (dT S) a1 c1 a2 c2 a3 c3), .cells b2 [.slice none (0) 0, .slice none (0) 0, .int .u64 0, .string ⟨#[]⟩, .string ⟨#[]⟩, .slice none 0 0], .cells br [.string S, .int .i64 ((dE S).1 : Nat), .int .i64 (dE S).2], .row a1 (dT S).ins.length c1 75 4 ((dT S).ins.flatMap Inp.c), .row a2 (dT S).outs.length c2 79 9 ((dT S).outs.flatMap Oup.c)]) (by simp only [Trx.c, dT, dI_len])) ?_
             refine jc_region ?_
             refine jz ?_
             refine jpc (goes_func rfl) (fun w1 hw1 => qleft_any br S (dE S) w1 hS (dE_ok S) (CellAt.of_cells (hw1.get (A := .cells br [.string S, .int .i64 ((dE S).1 : Nat), .int .i64 (dE S).2]) mem4) rfl) (CellAt.of_cells (hw1.get (A := .cells br [.string S, .int .i64 ((dE S).1 : Nat), .int .i64 (dE S).2]) mem4) rfl)) ?_
             refine jy (y_gtr rfl rfl) ?_
             refine jl_prop (fun h78 => ?_) (fun h78 => ?_)
             ·first
              | (exfalso; omega)
              | (
               refine jz ?_
               refine jsk ?_
               refine jsk ?_
               refine jsk ?_
               refine jy (y_pick_true rfl rfl) ?_
               refine jnt ?_
               refine jc_true rfl ?_
               refine jsr ?_
               refine jy (y_build Built.nil) ?_
               refine jst ?_
               refine jz ?_
               refine jnt ?_
               refine jc_ret ?_
               refine jq_then_ret ?_
               refine jq_res (.inl rfl) rfl (.cell rfl (by first | exact ld_agg (by first | exact mem0 | exact mem1 | exact mem2 | exact mem3 | exact mem4 | exact mem5) (by repeat constructor) | exact ld_agg (by first | exact mem0 | exact mem1 | exact mem2 | exact mem3 | exact mem4 | exact mem5) (by assumption)) (.tmp rfl .nil)) ?_
               exact fun _ hw => (by have ht := te22 (S := S) (by assumption) (by omega) (endE_ok (by omega)) (by omega) (by first | exact .inl (by omega) | exact .inr (by assumption)); have hz : txErr S ≠ 0 := (by rw [ht]; exact (by decide)); have hd := dec_zero hz; exact ⟨((none, 0), (none, 0), (none, 0)), by rw [ht, hd]; rfl, by rw [hd]; exact (((Hp.of_ch hw.ch).nilrow 121 10).nilrow 79 9).nilrow 75 4⟩)
               )
             ·first
              | (exfalso; omega)
              | (
               refine jz ?_
               refine jz ?_
               refine jpc (goes_func rfl) (fun w1 hw1 => rtxright_any (dT S) a1 c1 a2 c2 a3 c3 w1 (dT_fit S) (ElAt.of_row (fun _ => rfl) rfl (hw1.get (A := .row a1 (dT S).ins.length c1 75 4 ((dT S).ins.flatMap Inp.c)) mem5)) (ElAt.of_row (fun _ => rfl) rfl (hw1.get (A := .row a2 (dT S).outs.length c2 79 9 ((dT S).outs.flatMap Oup.c)) (.tail _ mem5))) (ElAt.of_row (fun _ => rfl) rfl (hw1.get (A := .row a3 (dT S).pf.wins.length c3 121 10 ((dT S).pf.wins.flatMap Wn.c)) mem1)) (by have := dT_lens S; omega) (by have := dT_lens S; omega) (by have := dT_lens S; omega)) ?_
               refine jl_bool (fun h81 => ?_) (fun h81 => ?_)
               ·skip
                refine jz ?_
                refine jy (y_pick_false rfl rfl) ?_
                refine jnt ?_
                refine jc_false rfl ?_
                refine jc_skip ?_
                refine jq_then ?_
                refine jsr ?_
                refine jz ?_
                refine jst ?_
                refine jz ?_
                refine jnt ?_
                refine jc_ret ?_
                refine jq_res (.inl rfl) rfl (.cell rfl (by first | exact ld_agg (by first | exact mem0 | exact mem1 | exact mem2 | exact mem3 | exact mem4 | exact mem5) (by repeat constructor) | exact ld_agg (by first | exact mem0 | exact mem1 | exact mem2 | exact mem3 | exact mem4 | exact mem5) (by assumption)) (.tmp rfl .nil)) ?_
                exact fun _ hw => (by have ht := te23 (S := S) (by assumption) (by omega) (endE_ok (by omega)) (by omega) (by rintro (q | q); (first | omega); simp_all); exact ⟨((a1, c1), (a2, c2), (a3, c3)), by rw [ht.1, ht.2]; rfl, by rw [ht.2]; exact hw.part (.cons (.tail del4) (.cons (.tail del4) (.cons del1 .nil)))⟩)
               ·skip
                refine jz ?_
                refine jy (y_pick_false rfl rfl) ?_
                refine jnt ?_
                refine jc_true rfl ?_
                refine jsr ?_
                refine jy (y_build Built.nil) ?_
                refine jst ?_
                refine jz ?_
                refine jnt ?_
                refine jc_ret ?_
                refine jq_then_ret ?_
                refine jq_res (.inl rfl) rfl (.cell rfl (by first | exact ld_agg (by first | exact mem0 | exact mem1 | exact mem2 | exact mem3 | exact mem4 | exact mem5) (by repeat constructor) | exact ld_agg (by first | exact mem0 | exact mem1 | exact mem2 | exact mem3 | exact mem4 | exact mem5) (by assumption)) (.tmp rfl .nil)) ?_
                exact fun _ hw => (by have ht := te22 (S := S) (by assumption) (by omega) (endE_ok (by omega)) (by omega) (by first | exact .inl (by omega) | exact .inr (by assumption)); have hz : txErr S ≠ 0 := (by rw [ht]; exact (by decide)); have hd := dec_zero hz; exact ⟨((none, 0), (none, 0), (none, 0)), by rw [ht, hd]; rfl, by rw [hd]; exact (((Hp.of_ch hw.ch).nilrow 121 10).nilrow 79 9).nilrow 75 4⟩)
               )
             )
           )
         )
      )
   )

end Go.Proofs.Ytamlleachfngeaa