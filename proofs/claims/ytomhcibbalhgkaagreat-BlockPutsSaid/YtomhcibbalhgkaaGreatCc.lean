/- The walks of package coin, part three: what is written. Written by program (walk.py) out of a table of contracts and invariants. -/
import Derived.Test.YtomhcibbalhgkaaGreatCb
namespace Go.Proofs.YtomhcibbalhgkaaGreat
open Go.RowKit
set_option maxRecDepth 100000
set_option maxHeartbeats 2000000
set_option linter.unusedVariables false
set_option linter.unusedSimpArgs false
theorem ou_small {o : Oup} (h : ouFits o = true) : o.key.size ≤ 16 ∧ o.gate.size ≤ 16 ∧ o.anchor.size ≤ 16 ∧ o.of.size ≤ 16 := by
  obtain ⟨h1, h2, h3, h4⟩ := ouFits_iff.1 h
  refine ⟨by omega, ?_⟩
  have he : (⟨#[]⟩ : ByteArray).size = 0 := rfl
  rcases h3 with h3 | ⟨h3, h5, h6, _⟩ | ⟨h3, h5, h6⟩
  · have h7 : ouBare o = ⟨o.kind, o.amount, o.key, ⟨#[]⟩, 0, ⟨#[]⟩, 0, 0, ⟨#[]⟩⟩ := by unfold ouBare; rw [if_neg (by omega), if_neg (by omega)]
    rw [h7] at h4; rw [h4]
    simp only [he]; omega
  · have h7 : ouBare o = ⟨o.kind, o.amount, o.key, o.gate, o.expiry, o.anchor, o.unit, o.tokens, ⟨#[]⟩⟩ := by unfold ouBare; rw [if_pos h3]
    rw [h7] at h4
    have h8 : o.of = ⟨#[]⟩ := congrArg Oup.of h4
    rw [h8, he]; omega
  · have h7 : ouBare o = ⟨o.kind, o.amount, o.key, o.gate, o.expiry, ⟨#[]⟩, 0, 0, o.of⟩ := by unfold ouBare; rw [if_neg (by omega), if_pos h3]
    rw [h7] at h4
    have h8 : o.anchor = ⟨#[]⟩ := congrArg Oup.anchor h4
    rw [h8, he]; omega

theorem txIns_size {t : Trx} (h : t.ins.length ≤ 4) : (txIns t).1.size ≤ 1000 := by
  unfold txIns
  refine wle0 (wle_fold (n := 18) (fun w x a K h => wle_in h) t.ins ?_)
  apply wle_byte; apply wle_byte
  have hw00 : w0.1.size = 0 := rfl
  omega
theorem txOuts_size {t : Trx} (h : t.ins.length ≤ 4) (l : List Oup) (hl : l.length ≤ 4) : (l.foldl putOu (wByte (txIns t) t.outs.length)).1.size ≤ 2000 := by
  refine wle0 (wle_fold (n := 100) (fun w x a K h => wle_ou h) l ?_)
  apply wle_byte
  have := txIns_size h
  omega
theorem txCore_size {t : Trx} : (txCore t).size ≤ 2000 := by
  unfold txCore
  split
  · rename_i h
    have hr := txRight_iff.1 h
    refine Nat.le_trans (wText_size _) ?_
    exact txOuts_size (by omega) t.outs (by omega)
  · exact Nat.zero_le _

theorem txcore_any (t : Trx) (a1 : Option Addr) (c1 : Nat) (a2 : Option Addr) (c2 : Nat) (a3 : Option Addr) (c3 : Nat) (w : World) (h1 : ElAt w a1 4 (t.ins.map Inp.c)) (h2 : ElAt w a2 9 (t.outs.map Oup.c)) (h3 : ElAt w a3 10 (t.pf.wins.map Wn.c)) (l1 : t.ins.length ≤ 1000000000) (l2 : t.outs.length ≤ 1000000000) (l3 : t.pf.wins.length ≤ 1000000000) (hf : t.Fit) :
  Calls Tryz.prog 66 #[.agg (Trx.c t a1 c1 a2 c2 a3 c3).toArray] w fun e w' => e = .returned (.string (txCore t)) ∧ Ch [] w w' := by
 refine calls_of (n := 50) (E := [(0, .agg (Trx.c t a1 c1 a2 c2 a3 c3).toArray)]) (W := Hp w [] []) Tryz.func66 rfl rfl (Nat.le_of_ble_eq_true rfl) rfl (Hp.nil _ _) ?_
 refine jsr ?_
 refine jl_m rfl (by decide) rfl (m_box rfl rfl) (fun b1 => ?_)
 refine jz ?_
 refine jnt ?_
 refine jc_seq ?_
 refine jsr ?_
 refine jz ?_
 refine jpc (goes_func rfl) (fun w1 hw1 => txright_any t a1 c1 a2 c2 a3 c3 w1 (h1.keep hw1) (h2.keep hw1) (h3.keep hw1) l1 l2 l3) ?_
 refine jl_bool (fun h9 => ?_) (fun h9 => ?_)
 ·skip
  have hrb : txRight t = true := by assumption
  obtain ⟨r1, r2, r3, r4, r5, r6⟩ := txRight_iff.1 hrb
  refine jz ?_
  refine jnt ?_
  refine jc_false rfl ?_
  refine jc_skip ?_
  refine jq_then ?_
  refine jsr ?_
  refine jl_m rfl (by decide) rfl (m_alloc) (fun b3 => ?_)
  refine jnt ?_
  refine jsr ?_
  refine juc (goes_func rfl) (fun w1 hw1 => wbyte_any b3 (w0) (67) (by simp only [fits]; decide) w1 (wz) hw1) ?_
  refine jnt ?_
  refine jsr ?_
  refine jz ?_
  refine jz ?_
  refine jy (y_len_slice rfl) ?_
  refine juc (goes_func rfl) (fun w1 hw1 => wbyte_any b3 (wByte (w0) (67)) (((t.ins.length : Nat) : Int)) (by simp only [fits]; omega) w1 (wz) hw1) ?_
  refine jnt ?_
  refine jc_seq ?_
  refine jsr ?_
  refine jz ?_
  refine jz ?_
  refine jy (y_len_slice rfl) ?_
  refine jz ?_
  refine jnt ?_
  refine jc_block ?_
  refine jc_loop (fun (i : Nat) => [(1, .pointer (some ⟨b1, 0, none⟩)), (3, .pointer (some ⟨b3, 0, none⟩)), (17, .slice a1 t.ins.length c1), (18, .int .i64 t.ins.length), (19, .int .i64 (i : Nat))]) (fun (i : Nat) => fun w' => i ≤ t.ins.length ∧ Hp w [] [.cells b3 [.string ((t.ins.take i).foldl putIn (wByte (wByte w0 67) t.ins.length)).1, .int .i64 ((t.ins.take i).foldl putIn (wByte (wByte w0 67) t.ins.length)).2], .cells b1 (Trx.c t a1 c1 a2 c2 a3 c3)] w') (fun (i : Nat) => t.ins.length - i) 0 ?_ ?_ ?_
  ·exact ⟨rfl, rfl, rfl, rfl, rfl, trivial⟩
  ·exact fun _ h => ⟨by omega, h⟩
  ·intro i
   refine jc_and (fun hi => ?_)
   refine jsr ?_
   refine jy (y_lss rfl rfl) ?_
   refine jl_prop (fun h20 => ?_) (fun h20 => ?_)
   ·first
    | (exfalso; omega)
    | (
     have hlt : i < t.ins.length := by omega
     have hfx := hf.ins _ (List.getElem_mem hlt)
     have hrx := r1 _ (List.getElem_mem hlt)
     obtain ⟨bb, oo, ea, hold⟩ := h1.get hlt
     subst ea
     generalize hxe : t.ins[i]'hlt = x at *
     have hrx2 := inFits_iff.1 hrx
     have hzs := wle_fold (f := putIn) (n := 18) (fun w x a K h => wle_in h) (t.ins.take i) (w := wByte (wByte w0 67) t.ins.length) (a := 0) (K := 1000) (by rw [List.length_take]; apply wle_byte; apply wle_byte; have hw00 : w0.1.size = 0 := rfl; omega)
     generalize hz : (t.ins.take i).foldl putIn (wByte (wByte w0 67) t.ins.length) = z at *
     refine jnt ?_
     refine jc_seq ?_
     refine jc_true rfl ?_
     refine jc_skip ?_
     refine jq_then ?_
     refine jc_seq ?_
     refine jc_block ?_
     refine jsr ?_
     refine jy (y_indexAddr_slice (off := oo + i * 4) rfl rfl (by omega) (by omega) (by omega)) ?_
     refine jy (y_loadAgg_old rfl rfl hold (by simp)) ?_
     refine jl_m rfl (by decide) rfl (m_alloc) (fun b5 => ?_)
     refine jst ?_
     refine jnt ?_
     refine jsr ?_
     refine jz ?_
     refine jz ?_
     refine jz ?_
     refine juc (goes_func rfl) (fun w1 hw1 => whash_any b3 (z) (x.pt.tx) (by omega) w1 (wz) hw1) ?_
     refine jnt ?_
     refine jsr ?_
     refine jz ?_
     refine jz ?_
     refine jz ?_
     refine juc (goes_func rfl) (fun w1 hw1 => wbyte_any b3 (wHash (z) (x.pt.tx)) (x.pt.out) hfx.out w1 (wz) hw1) ?_
     refine jnt ?_
     refine jc_region ?_
     refine jz ?_
     refine jz ?_
     refine juc (goes_func rfl) (fun w1 hw1 => wbyte_any b3 (wByte (wHash (z) (x.pt.tx)) (x.pt.out)) (x.path) hfx.path w1 (wz) hw1) ?_
     refine jl_nil ?_
     refine jq_block ?_
     refine jq_then ?_
     refine jc_region ?_
     refine jy (y_add_fits rfl rfl (by simp only [fits]; omega)) ?_
     refine jz ?_
     refine jl_nil ?_
     refine jq_round (i := i) (i + 1) ?_ ?_ ?_
     ·omega
     ·exact ⟨rfl, rfl, rfl, rfl, lk_int rfl (by omega), trivial⟩
     ·exact fun _ h => ⟨by omega, h.pop.cast (by rw [fold_take putIn hlt, hxe, hz]; rfl)⟩
     )
   ·first
    | (exfalso; omega)
    | (
     refine jnt ?_
     refine jc_seq ?_
     refine jc_false rfl ?_
     refine jc_exit ?_
     refine jq_then_exit ?_
     refine jq_then_exit ?_
     refine jq_hit ?_
     refine jq_then ?_
     refine jc_seq ?_
     refine jc_world (fun _ h => h.cast (H' := [.cells b3 [.string (txIns t).1, .int .i64 (txIns t).2], .cells b1 (Trx.c t a1 c1 a2 c2 a3 c3)]) (by rw [List.take_of_length_le (by omega)]; rfl)) ?_
     refine jc_region ?_
     refine jz ?_
     refine jz ?_
     refine jy (y_len_slice rfl) ?_
     refine juc (goes_func rfl) (fun w1 hw1 => wbyte_any b3 (txIns t) (((t.outs.length : Nat) : Int)) (by simp only [fits]; omega) w1 (by have := txIns_size (t := t) (by omega); omega) hw1) ?_
     refine jnt ?_
     refine jc_seq ?_
     refine jsr ?_
     refine jz ?_
     refine jz ?_
     refine jy (y_len_slice rfl) ?_
     refine jz ?_
     refine jnt ?_
     refine jc_block ?_
     refine jc_loop (fun (i : Nat) => [(1, .pointer (some ⟨b1, 0, none⟩)), (3, .pointer (some ⟨b3, 0, none⟩)), (40, .slice a2 t.outs.length c2), (41, .int .i64 t.outs.length), (42, .int .i64 (i : Nat))]) (fun (i : Nat) => fun w' => i ≤ t.outs.length ∧ Hp w [] [.cells b3 [.string ((t.outs.take i).foldl putOu (wByte (txIns t) t.outs.length)).1, .int .i64 ((t.outs.take i).foldl putOu (wByte (txIns t) t.outs.length)).2], .cells b1 (Trx.c t a1 c1 a2 c2 a3 c3)] w') (fun (i : Nat) => t.outs.length - i) 0 ?_ ?_ ?_
     ·exact ⟨rfl, rfl, rfl, rfl, rfl, trivial⟩
     ·exact fun _ h => ⟨by omega, h⟩
     ·intro i
      refine jc_and (fun hi => ?_)
      refine jsr ?_
      refine jy (y_lss rfl rfl) ?_
      refine jl_prop (fun h43 => ?_) (fun h43 => ?_)
      ·first
       | (exfalso; omega)
       | (
        have hlt : i < t.outs.length := by omega
        have hfx := hf.outs _ (List.getElem_mem hlt)
        have hrx := r5 _ (List.getElem_mem hlt)
        obtain ⟨bb, oo, ea, hold⟩ := h2.get hlt
        subst ea
        generalize hxe : t.outs[i]'hlt = x at *
        have hsm := ou_small hrx
        have hzs := txOuts_size (t := t) (by omega) (t.outs.take i) (by rw [List.length_take]; omega)
        generalize hz : (t.outs.take i).foldl putOu (wByte (txIns t) t.outs.length) = z at *
        refine jnt ?_
        refine jc_seq ?_
        refine jc_true rfl ?_
        refine jc_skip ?_
        refine jq_then ?_
        refine jc_seq ?_
        refine jc_block ?_
        refine jsr ?_
        refine jy (y_indexAddr_slice (off := oo + i * 9) rfl rfl (by omega) (by omega) (by omega)) ?_
        refine jy (y_loadAgg_old rfl rfl hold (by simp)) ?_
        refine jl_m rfl (by decide) rfl (m_alloc) (fun b7 => ?_)
        refine jst ?_
        refine jnt ?_
        refine jc_region ?_
        refine jz ?_
        refine juc (goes_func rfl) (fun w1 hw1 => putou_any b3 z x w1 hfx (by omega) (by omega) hw1) ?_
        refine jl_nil ?_
        refine jq_block ?_
        refine jq_then ?_
        refine jc_region ?_
        refine jy (y_add_fits rfl rfl (by simp only [fits]; omega)) ?_
        refine jz ?_
        refine jl_nil ?_
        refine jq_round (i := i) (i + 1) ?_ ?_ ?_
        ·omega
        ·exact ⟨rfl, rfl, rfl, rfl, lk_int rfl (by omega), trivial⟩
        ·exact fun _ h => ⟨by omega, h.pop.cast (by rw [fold_take putOu hlt, hxe, hz])⟩
        )
      ·first
       | (exfalso; omega)
       | (
        refine jnt ?_
        refine jc_seq ?_
        refine jc_false rfl ?_
        refine jc_exit ?_
        refine jq_then_exit ?_
        refine jq_then_exit ?_
        refine jq_hit ?_
        refine jq_then ?_
        refine jsr ?_
        refine jpc (goes_func rfl) (fun w1 hw1 => wtext_any b3 ((t.outs.take i).foldl putOu (wByte (txIns t) t.outs.length)) w1 (CellAt.of_cells (hw1.get (A := .cells b3 [.string ((t.outs.take i).foldl putOu (wByte (txIns t) t.outs.length)).1, .int .i64 ((t.outs.take i).foldl putOu (wByte (txIns t) t.outs.length)).2]) mem0) rfl) (CellAt.of_cells (hw1.get (A := .cells b3 [.string ((t.outs.take i).foldl putOu (wByte (txIns t) t.outs.length)).1, .int .i64 ((t.outs.take i).foldl putOu (wByte (txIns t) t.outs.length)).2]) mem0) rfl)) ?_
        refine jz ?_
        refine jnt ?_
        refine jc_ret ?_
        refine jq_ret1 rfl rfl ?_
        exact fun _ hw => ⟨by unfold txCore txPut; rw [if_pos hrb, List.take_of_length_le (by omega)], hw.ch⟩
        )
     )
 ·skip
  refine jz ?_
  refine jnt ?_
  refine jc_true rfl ?_
  refine jsr ?_
  refine jz ?_
  refine jnt ?_
  refine jc_ret ?_
  refine jq_then_ret ?_
  refine jq_ret1 rfl rfl ?_
  exact fun _ hw => ⟨by unfold txCore; rw [if_neg (by simp_all)], hw.ch⟩

end Go.Proofs.YtomhcibbalhgkaaGreat