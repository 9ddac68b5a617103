/- The walk of BlockNames. Written by program (walk.py) out of a table of contracts and invariants. -/
import Derived.Test.YtomhcibbalhgkaaMblk
import Derived.Test.YtomhcibbalhgkaaBn
namespace Go.Proofs.Ytomhcibbalhgkaa
open Go.RowKit

theorem At.cut {S T t : ByteArray} {p : Nat} (hc : ints S <+: ints T) (h : At T p t) (hl : p + t.size ≤ S.size) : At S p t := by
  refine ⟨?_, by omega⟩
  refine List.prefix_of_prefix_length_le h.1 (l₂ := (ints S).drop p) (by
    obtain ⟨r, hr⟩ := hc
    rw [← hr, List.drop_append_of_le_length (by rw [ints_length]; omega)]
    exact List.prefix_append _ _) ?_
  rw [List.length_drop, ints_length, ints_length]; omega
def CutP (x : RS) (p : Nat) : Prop := x = (p, 0) ∨ x.2 = 3
theorem tk_3 {S : ByteArray} {x : RS} {n : Nat} (h : x.2 = 3) : (tkS S x n).2 = 3 := by rw [(tk_bad (by omega)).2]; exact h
theorem bl_3 {S : ByteArray} {x : RS} {m : Int} (h : x.2 = 3) : (blS S x m).2 = 3 := by
  have h1 := tk_3 (S := S) (n := 2) h
  unfold blS; rw [if_neg (by omega)]; exact h1
theorem many_3 {S : ByteArray} {x : RS} (h : x.2 = 3) : ∀ n, (rdMany (rdBl S) x n).2.2 = 3
  | 0 => h
  | n + 1 => bl_3 (many_3 h n)
theorem many_ok {S : ByteArray} {x : RS} (h : okR S x) : ∀ n, okR S (rdMany (rdBl S) x n).2
  | 0 => h
  | n + 1 => blS_ok (many_ok h n)
theorem cut_tk {S T t : ByteArray} {p n : Nat} {x : RS} (hc : ints S <+: ints T) (hA : At T p t) (hn : t.size = n) (hx : CutP x p) : CutP (tkS S x n) (p + n) := by
  rcases hx with hx | hx
  · subst hx
    by_cases h : p + n ≤ S.size
    · exact .inl (tk_at (hA.cut hc (by omega)) hn).2
    · right; rw [(tk_short rfl h).2]
  · exact .inr (tk_3 hx)
theorem cut_bl {S T t : ByteArray} {p : Nat} {x : RS} {m : Int} (hc : ints S <+: ints T) (hA : At T p (partS t)) (hm : t.size ≤ m) (hs : t.size ≤ 4096) (hx : CutP x p) : CutP (blS S x m) (p + (partS t).size) := by
  rcases hx with hx | hx
  · subst hx
    by_cases h : p + (partS t).size ≤ S.size
    · rw [partS_size']; exact .inl (bl_at (hA.cut hc h) hm hs).2
    · right
      rw [partS_size'] at h
      rw [partS_eq'] at hA
      by_cases h2 : p + 2 ≤ S.size
      · have hl := (At.app.1 hA).1.cut hc (by rw [lenB_size]; exact h2)
        have h3 := tk_at hl (lenB_size _)
        have hv : lenV S (p, 0) = t.size := by unfold lenV; rw [h3.1, two_lenB (by omega)]; simp
        have hT : blT S (p, 0) m = (p + 2, 0) := by unfold blT; rw [hv, if_neg (by omega)]; exact h3.2
        have h4 := tk_short (S := S) (x := (p + 2, 0)) (n := t.size) rfl (by show ¬ p + 2 + t.size ≤ S.size; omega)
        unfold blS
        rw [h3.2, if_pos rfl, hT, hv, h4.2, if_neg (by show ¬ (3 : Int) = 0; decide)]
      · have h3 := tk_short (S := S) (x := (p, 0)) (n := 2) rfl h2
        unfold blS
        rw [h3.2, if_neg (by show ¬ (3 : Int) = 0; decide)]
  · exact .inr (bl_3 hx)
theorem cut_many {S T : ByteArray} (hc : ints S <+: ints T) : ∀ {l : List ByteArray} {p : Nat} {x : RS}, (∀ v ∈ l, v.size ≤ 4096) → At T p (catB (l.map partS)) → CutP x p → CutP (rdMany (rdBl S) x l.length).2 (p + (catB (l.map partS)).size)
  | [], _, _, _, _, hx => hx
  | v :: l, p, x, hl, hA, hx => by
    have h1 := At.app.1 (show At T p (partS v ++ catB (l.map partS)) from hA)
    have hv := hl v (.head _)
    have h2 := cut_bl (m := 4096) hc h1.1 (by omega) hv hx
    have h3 := cut_many hc (fun u hu => hl u (.tail _ hu)) h1.2 h2
    rw [List.length_cons, rdMany_cons]
    show CutP (rdMany (rdBl S) (blS S x 4096) l.length).2 (p + (partS v ++ catB (l.map partS)).size)
    rw [ByteArray.size_append, ← Nat.add_assoc]
    exact h3
/-- a block's bytes, cut off -/
theorem bkErr_cut {b : Blk} {S : ByteArray} (h : bkRight b = true) (hc : ints S <+: ints (bkEnc b)) (hk : S.size < (bkEnc b).size) : bkErr S = 3 := by
  rw [bkEnc_eq h] at hc hk
  obtain ⟨h1, h2, h3, h4, h5⟩ := bkRight_iff.1 h
  have hz : (bkBy b).size = 26 + (catB ((b.txs.map txEnc).map partS)).size := by
    unfold bkBy
    rw [List.map_map]
    simp only [ByteArray.size_append, oneB_size, putS_size, h3]
    show 1 + (8 + (16 + (1 + _))) = 26 + _
    have : (partS ∘ txEnc) = fun t => partS (txEnc t) := rfl
    rw [this]; omega
  generalize hT : bkBy b = T at *
  have hA : At T 0 (bkBy b) := by rw [hT]; exact At.self T
  unfold bkBy at hA
  obtain ⟨a1, hA⟩ := At.app.1 hA
  obtain ⟨a2, hA⟩ := At.app.1 hA
  obtain ⟨a3, hA⟩ := At.app.1 hA
  obtain ⟨a4, a5⟩ := At.app.1 hA
  simp only [oneB_size, putS_size, h3] at a2 a3 a4 a5
  have hfirst : (¬ (S ≠ ⟨#[]⟩ ∧ byV S (0, 0) ≠ 66)) ∧ CutP (bkB S) 9 := by
    by_cases e : S = ⟨#[]⟩
    · refine ⟨fun q => q.1 e, .inr ?_⟩
      unfold bkB bkS; rw [if_pos e]
      show (tkS S (0, 0) 8).2 = 3
      rw [(tk_short rfl (by rw [e]; decide)).2]
    · have hs : 0 < S.size := Nat.pos_of_ne_zero fun q => e (size_zero.1 q)
      have c := by_at (a1.cut hc (by rw [oneB_size]; omega)) ⟨by decide, by decide⟩
      refine ⟨fun q => q.2 c.1, ?_⟩
      unfold bkB bkS; rw [if_neg e, c.2]
      exact cut_tk hc a2 (putS_size _) (.inl rfl)
  have hC : CutP (bkC S) 25 := cut_tk hc a3 h3 hfirst.2
  have hL : (bkL S).2.2 = 3 := by
    have hbad : (bkD S).2 = 3 → (bkL S).2.2 = 3 := fun q => by
      have q2 : (bkE S).2 = 3 := by
        unfold bkE; split
        · show failE (bkD S).2 4 = 3
          rw [q]; rfl
        · exact q
      exact many_3 q2 _
    rcases hC with hC | hC
    · by_cases hl : 25 + 1 ≤ S.size
      · have c := by_at (a4.cut hc (by rw [oneB_size]; omega)) ⟨by omega, by omega⟩
        have eN : bkN S = b.txs.length := by unfold bkN; rw [hC]; exact c.1
        have eE : bkE S = (26, 0) := by unfold bkE bkD; rw [if_neg (by rw [eN]; omega), hC]; exact c.2
        have eK : bkK S = (b.txs.map txEnc).length := by unfold bkK; rw [eN, List.length_map]; omega
        have e5 : b.txs.map (fun t => partS (txEnc t)) = (b.txs.map txEnc).map partS := by rw [List.map_map]; rfl
        rw [e5] at a5
        have c5 := cut_many (x := (26, 0)) hc (l := b.txs.map txEnc) (fun v hv => by
          obtain ⟨t, ht, e⟩ := List.mem_map.1 hv
          rw [← e]; exact txEnc_room (h5 t ht)) a5 (.inl rfl)
        have e6 : (bkL S).2 = (rdMany (rdBl S) (26, 0) (b.txs.map txEnc).length).2 := by unfold bkL; rw [eE, eK]
        rw [← e6] at c5
        rcases c5 with c5 | c5
        · have ok := many_ok (bkE_ok S) (bkK S)
          have ok2 : (bkL S).2.1 ≤ S.size := ok
          rw [c5] at ok2
          have ok3 : 0 + 1 + 8 + 16 + 1 + (catB ((b.txs.map txEnc).map partS)).size ≤ S.size := ok2
          omega
        · exact c5
      · apply hbad
        show (tkS S (bkC S) 1).2 = 3
        rw [hC, (tk_short rfl hl).2]
    · exact hbad (tk_3 hC)
  have he : endE S (bkL S).2 = 3 := by unfold endE; rw [if_neg (fun q => by omega)]; exact hL
  unfold bkErr
  rw [if_neg hfirst.1, he, if_pos (.inl ⟨by decide, by decide⟩)]
end Go.Proofs.Ytomhcibbalhgkaa

namespace Go.Proofs.Ytomhcibbalhgkaa
open Go.RowKit
set_option maxRecDepth 100000
set_option maxHeartbeats 4000000
set_option linter.unusedVariables false
set_option linter.unusedSimpArgs false
theorem bkEnc_nil (b : Blk) : decide (bkEnc b = ⟨#[]⟩) = !bkRight b := by
  cases h : bkRight b
  · unfold bkEnc; rw [if_neg (by rw [h]; simp)]; decide
  · simp only [Bool.not_true, decide_eq_false_iff_not]
    exact bkEnc_ne h
theorem bkEnc_size (b : Blk) : (bkEnc b).size ≤ 100000 := by
  by_cases h : bkRight b = true
  · have hr := bkRight_iff.1 h
    unfold bkEnc
    rw [if_pos h]
    refine Nat.le_trans (wText_size _) ?_
    unfold bkPut
    refine wle0 (wle_fold (n := 4098) (fun w x a K h => wle_blob h) _ ?_)
    apply wle_byte; apply wle_hash; apply wle_num; apply wle_byte
    have : w0.1.size = 0 := rfl
    omega
  · unfold bkEnc; rw [if_neg h]; exact Nat.zero_le _
theorem ints_pre {s : ByteArray} {n : Nat} : ints (s.extract 0 n) <+: ints s := by
  rw [ints_extract, List.drop_zero]
  exact List.take_prefix _ _
theorem bkdecE2 {S : ByteArray} {n : Int} (w : World) (hS : S.size ≤ 1000000) (hn : bkErr S = n) : Calls Try.prog 8 #[.string S] w fun e w' => ∃ q : Blq, e = .returned (.tuple #[.agg (Blq.c q).toArray, .int .i64 n]) ∧ Hp w [] (q.rows 41 45 75 113) w' := by
  have h := bkdec_any S w (by omega)
  rw [hn] at h
  exact h.mono fun _ _ ⟨q, h1, _, h2⟩ => ⟨q, h1, h2⟩
structure Cutd (q : Blq) (w : World) (h : Int) : Prop where
  at_ : TxsAt w q.ad q.l
  low : ∀ x ∈ q.l, Low x.t
  fit : ∀ x ∈ q.l, x.t.Fit
  len : q.l.length ≤ 1000000
  high : fits .i64 q.height
theorem Cutd.of {q : Blq} {b : Blk} {w0 w : World} {S : List Nat} {H : List HA} (h : q.b = ctBk b) (hf : b.Fit) (hp : Hp w0 S H w) (hm : ∀ A ∈ q.rows 41 45 75 113, A ∈ H) : Cutd q w b.height := by
  have hl := low_cut h hf.txs
  exact ⟨txs_rows hp hm, hl.1, hl.2.1, by have := hl.2.2; omega, by rw [show q.height = b.height from congrArg Blk.height h]; exact hf.height⟩
theorem Cutd.dec {q : Blq} {s : ByteArray} {w0 w : World} {S : List Nat} {H : List HA} (h : q.b = bkDec s) (hp : Hp w0 S H w) (hm : ∀ A ∈ q.rows 41 45 75 113, A ∈ H) : Cutd q w 0 := by
  have hl := low_dec h
  exact ⟨txs_rows hp hm, hl.1, hl.2.1, by have := hl.2.2.1; omega, hl.2.2.2⟩
theorem Cutd.keep {q : Blq} {w w1 : World} {H : List HA} {n : Int} (h : Cutd q w n) (hw : Hp w [] H w1) : Cutd q w1 n := ⟨h.at_.keep hw, h.low, h.fit, h.len, h.high⟩
theorem Cutd.fits {q : Blq} {w : World} {n : Int} (h : Cutd q w n) : ∀ t ∈ q.b.txs, t.Fit := fun t ht => by
  obtain ⟨x, hx, rfl⟩ := List.mem_map.1 ht
  exact h.fit x hx
theorem Cutd.take {q : Blq} {w : World} {n : Int} (h : Cutd q w n) (k : Nat) : Cutd ⟨q.height, q.prev, q.l.take k, q.ad, q.cp⟩ w n :=
  ⟨h.at_.take k, fun x hx => h.low x (List.mem_of_mem_take hx), fun x hx => h.fit x (List.mem_of_mem_take hx), by show (q.l.take k).length ≤ _; rw [List.length_take]; have := h.len; omega, h.high⟩

theorem blockBack_any (q : Blq) (s : ByteArray) (w : World) (hf : q.b.Fit) (hE : TxsAt w q.ad q.l) :
  Calls Try.prog 3 #[.agg (Blq.c q).toArray, .string s] w fun e w' => e = .returned (.bool true) ∧ Ch [] w w' := by
 have hss := cutS_size s 20000
 refine calls_of (n := 63) (E := [(0, .agg (Blq.c q).toArray), (1, .string s)]) (W := Hp w [] []) Try.func3 rfl rfl (Nat.le_of_ble_eq_true rfl) rfl (Hp.nil _ _) ?_
 refine jsr ?_
 refine jl_m rfl (by decide) rfl (m_box rfl rfl) (fun b2 => ?_)
 refine jz ?_
 refine jnt ?_
 refine jsr ?_
 refine jz ?_
 refine jl_gcallL rfl (by decide) rfl (goes_func rfl) (fun w1 hw1 => cutbk_any q w1 (hE.keep hw1)) (fun r => ?_)
 refine jst ?_
 refine jnt ?_
 refine jc_seq ?_
 refine jc_rebase (fun wx hbx => ?_)
 have hB : Old wx b2 0 (Blq.c r.1) := Old.of_cells (hbx.get mem0)
 have cB := Cutd.of r.2 hf hbx (fun A hA => .tail _ hA)
 have hez := bkEnc_size r.1.b
 refine jc_region ?_
 refine jz ?_
 refine jz ?_
 refine jy (y_len_str rfl) ?_
 refine jy (y_min rfl rfl) ?_
 refine jy (y_substr_hi rfl rfl (by omega) (by omega)) ?_
 refine jl_as (congrArg Value.string (cut_eq _ 20000)) ?_
 refine jz ?_
 refine jnt ?_
 refine jsr ?_
 refine jy (y_loadAgg_old rfl rfl hB (by simp)) ?_
 refine jpc (goes_func rfl) (fun w1 hw1 => bkenc_any r.1 w1 cB.len (cB.keep hw1).at_ cB.low cB.fit cB.high) ?_
 refine jz ?_
 refine jnt ?_
 refine jsr ?_
 refine jz ?_
 refine jl_gcallL rfl (by decide) rfl (goes_func rfl) (fun w1 hw1 => bkdec_sub (bkEnc r.1.b) w1 (by omega)) (fun d1 => ?_)
 refine jz ?_
 refine jz ?_
 refine jz ?_
 refine jl_m rfl (by decide) rfl (m_alloc) (fun b6 => ?_)
 refine jst ?_
 refine jz ?_
 refine jnt ?_
 refine jc_seq ?_
 refine jc_seq ?_
 refine jc_rebase (fun wy hby => ?_)
 have hC : Old wy b6 0 (Blq.c d1.1) := Old.of_cells (hby.get mem0)
 have cC := Cutd.dec d1.2 hby (fun A hA => .tail _ hA)
 replace hB := hB.keep hby
 replace cB := cB.keep hby
 cases hr : bkRight r.1.b
 ·skip
  refine jc_region ?_
  refine jy (y_loadAgg_old rfl rfl hB (by simp)) ?_
  refine jpc (goes_func rfl) (fun w1 hw1 => bkright_any r.1 w1 cB.len (cB.keep hw1).at_ cB.low) ?_
  refine jl_as (u := .bool false) (congrArg Value.bool (hr)) ?_
  refine jz ?_
  refine jy (y_sneq rfl rfl) ?_
  refine jl_as (u := .bool false) (congrArg Value.bool (by rw [bkEnc_nil, hr]; rfl)) ?_
  refine jy (y_neq_bool rfl rfl) ?_
  refine jl_as (u := .bool false) rfl ?_
  refine jz ?_
  refine jz ?_
  refine jy (y_sneq rfl rfl) ?_
  refine jl_as (u := .bool false) (congrArg Value.bool (by rw [bkEnc_nil, hr]; rfl)) ?_
  refine jz ?_
  refine jsk ?_
  refine jsk ?_
  refine jsk ?_
  refine jsk ?_
  refine jsk ?_
  refine jsk ?_
  refine jsk ?_
  refine jsk ?_
  refine jy (y_pick_false rfl rfl) ?_
  refine jy (y_pick_false rfl rfl) ?_
  refine jnt ?_
  refine jc_false rfl ?_
  refine jc_skip ?_
  refine jq_then ?_
  refine jsr ?_
  refine jz ?_
  refine jl_gcallL rfl (by decide) rfl (goes_func rfl) (fun w1 hw1 => bkdec_sub (cutS s 20000) w1 (by omega)) (fun d2 => ?_)
  refine jz ?_
  refine jz ?_
  refine jz ?_
  refine jl_m rfl (by decide) rfl (m_alloc) (fun b8 => ?_)
  refine jst ?_
  refine jz ?_
  refine jnt ?_
  refine jc_seq ?_
  refine jc_rebase (fun wz hbz => ?_)
  have hG : Old wz b8 0 (Blq.c d2.1) := Old.of_cells (hbz.get mem0)
  have cG := Cutd.dec d2.2 hbz (fun A hA => .tail _ hA)
  replace hB := hB.keep hbz
  replace cB := cB.keep hbz
  replace hC := hC.keep hbz
  replace cC := cC.keep hbz
  refine jc_region ?_
  refine jz ?_
  refine jy (y_neq rfl rfl) ?_
  refine jl_prop (fun h49 => ?_) (fun h49 => ?_)
  ·first
   | (exfalso; omega)
   | (
    refine jz ?_
    refine jsk ?_
    refine jsk ?_
    refine jsk ?_
    refine jsk ?_
    refine jsk ?_
    refine jsk ?_
    refine jsk ?_
    refine jsk ?_
    refine jy (y_pick_true rfl rfl) ?_
    refine jz ?_
    refine jpc (goes_func rfl) (fun w1 hw1 => fixed10_any w1) ?_
    refine jy (y_pick_true rfl rfl) ?_
    refine jz ?_
    refine jnt ?_
    refine jc_ret ?_
    refine jq_ret1 rfl rfl ?_
    exact fun _ hw => ⟨rfl, (hbx.ch.then (hby.ch.then (hbz.ch.then hw.ch)))⟩
    )
  ·first
   | (exfalso; omega)
   | (
    refine jz ?_
    refine jy (y_loadAgg_old rfl rfl hG (by simp)) ?_
    refine jpc (goes_func rfl) (fun w1 hw1 => cq (u := .bool true) (bkright_any d2.1 w1 cG.len (cG.keep hw1).at_ cG.low) (congrArg Value.bool ((congrArg bkRight d2.2).trans (bkEnc_dec (S := (cutS s 20000)) (Decidable.not_not.1 h49)).1))) ?_
    refine jz ?_
    refine jy (y_loadAgg_old rfl rfl hG (by simp)) ?_
    refine jpc (goes_func rfl) (fun w1 hw1 => cq (bkenc_any d2.1 w1 cG.len (cG.keep hw1).at_ cG.low cG.fit cG.high) (congrArg Value.string (congrArg bkEnc d2.2))) ?_
    refine jz ?_
    refine jy (y_seql rfl rfl) ?_
    refine jl_as (u := .bool true) (congrArg (fun b => Value.bool b) (decide_eq_true ((bkEnc_dec (S := (cutS s 20000)) (Decidable.not_not.1 h49)).2))) ?_
    refine jy (y_pick_true rfl rfl) ?_
    refine jy (y_pick_false rfl rfl) ?_
    refine jz ?_
    refine jpc (goes_func rfl) (fun w1 hw1 => fixed10_any w1) ?_
    refine jy (y_pick_true rfl rfl) ?_
    refine jz ?_
    refine jnt ?_
    refine jc_ret ?_
    refine jq_ret1 rfl rfl ?_
    exact fun _ hw => ⟨rfl, (hbx.ch.then (hby.ch.then (hbz.ch.then hw.ch)))⟩
    )
 ·skip
  refine jc_region ?_
  refine jy (y_loadAgg_old rfl rfl hB (by simp)) ?_
  refine jpc (goes_func rfl) (fun w1 hw1 => bkright_any r.1 w1 cB.len (cB.keep hw1).at_ cB.low) ?_
  refine jl_as (u := .bool true) (congrArg Value.bool (hr)) ?_
  refine jz ?_
  refine jy (y_sneq rfl rfl) ?_
  refine jl_as (u := .bool true) (congrArg Value.bool (by rw [bkEnc_nil, hr]; rfl)) ?_
  refine jy (y_neq_bool rfl rfl) ?_
  refine jl_as (u := .bool false) rfl ?_
  refine jz ?_
  refine jz ?_
  refine jy (y_sneq rfl rfl) ?_
  refine jl_as (u := .bool true) (congrArg Value.bool (by rw [bkEnc_nil, hr]; rfl)) ?_
  refine jz ?_
  refine jz ?_
  refine jy (y_neq rfl rfl) ?_
  refine jl_as (u := .bool false) (congrArg Value.bool (decide_eq_false (fun h => h (bkDec_enc hr cB.fits).1))) ?_
  refine jz ?_
  refine jy (y_loadAgg_old rfl rfl hB (by simp)) ?_
  refine jy (y_loadAgg_old rfl rfl hC (by simp)) ?_
  refine jpc (goes_func rfl) (fun w1 hw1 => cq (bksame_any r.1 d1.1 w1 cB.len cC.len (cB.keep hw1).at_ (cC.keep hw1).at_ cB.low cC.low) (congrArg Value.bool (decide_eq_true (by rw [d1.2, (bkDec_enc hr cB.fits).2])))) ?_
  refine jz ?_
  refine jy (y_pick_false rfl rfl) ?_
  refine jy (y_pick_true rfl rfl) ?_
  refine jy (y_pick_false rfl rfl) ?_
  refine jnt ?_
  refine jc_false rfl ?_
  refine jc_skip ?_
  refine jq_then ?_
  refine jsr ?_
  refine jz ?_
  refine jl_gcallL rfl (by decide) rfl (goes_func rfl) (fun w1 hw1 => bkdec_sub (cutS s 20000) w1 (by omega)) (fun d2 => ?_)
  refine jz ?_
  refine jz ?_
  refine jz ?_
  refine jl_m rfl (by decide) rfl (m_alloc) (fun b8 => ?_)
  refine jst ?_
  refine jz ?_
  refine jnt ?_
  refine jc_seq ?_
  refine jc_rebase (fun wz hbz => ?_)
  have hG : Old wz b8 0 (Blq.c d2.1) := Old.of_cells (hbz.get mem0)
  have cG := Cutd.dec d2.2 hbz (fun A hA => .tail _ hA)
  replace hB := hB.keep hbz
  replace cB := cB.keep hbz
  replace hC := hC.keep hbz
  replace cC := cC.keep hbz
  refine jc_region ?_
  refine jz ?_
  refine jy (y_neq rfl rfl) ?_
  refine jl_prop (fun h49 => ?_) (fun h49 => ?_)
  ·first
   | (exfalso; omega)
   | (
    refine jz ?_
    refine jsk ?_
    refine jsk ?_
    refine jsk ?_
    refine jsk ?_
    refine jsk ?_
    refine jsk ?_
    refine jsk ?_
    refine jsk ?_
    refine jy (y_pick_true rfl rfl) ?_
    refine jz ?_
    refine jpc (goes_func rfl) (fun w1 hw1 => fixed10_any w1) ?_
    refine jy (y_pick_true rfl rfl) ?_
    refine jz ?_
    refine jnt ?_
    refine jc_ret ?_
    refine jq_ret1 rfl rfl ?_
    exact fun _ hw => ⟨rfl, (hbx.ch.then (hby.ch.then (hbz.ch.then hw.ch)))⟩
    )
  ·first
   | (exfalso; omega)
   | (
    refine jz ?_
    refine jy (y_loadAgg_old rfl rfl hG (by simp)) ?_
    refine jpc (goes_func rfl) (fun w1 hw1 => cq (u := .bool true) (bkright_any d2.1 w1 cG.len (cG.keep hw1).at_ cG.low) (congrArg Value.bool ((congrArg bkRight d2.2).trans (bkEnc_dec (S := (cutS s 20000)) (Decidable.not_not.1 h49)).1))) ?_
    refine jz ?_
    refine jy (y_loadAgg_old rfl rfl hG (by simp)) ?_
    refine jpc (goes_func rfl) (fun w1 hw1 => cq (bkenc_any d2.1 w1 cG.len (cG.keep hw1).at_ cG.low cG.fit cG.high) (congrArg Value.string (congrArg bkEnc d2.2))) ?_
    refine jz ?_
    refine jy (y_seql rfl rfl) ?_
    refine jl_as (u := .bool true) (congrArg (fun b => Value.bool b) (decide_eq_true ((bkEnc_dec (S := (cutS s 20000)) (Decidable.not_not.1 h49)).2))) ?_
    refine jy (y_pick_true rfl rfl) ?_
    refine jy (y_pick_false rfl rfl) ?_
    refine jz ?_
    refine jpc (goes_func rfl) (fun w1 hw1 => fixed10_any w1) ?_
    refine jy (y_pick_true rfl rfl) ?_
    refine jz ?_
    refine jnt ?_
    refine jc_ret ?_
    refine jq_ret1 rfl rfl ?_
    exact fun _ hw => ⟨rfl, (hbx.ch.then (hby.ch.then (hbz.ch.then hw.ch)))⟩
    )

theorem blockShort_any (q : Blq) (at_ c : Int) (w : World) (hf : q.b.Fit) (hE : TxsAt w q.ad q.l) (ha : fits .u16 at_) (hc : fits .u8 c) :
  Calls Try.prog 5 #[.agg (Blq.c q).toArray, .int .u16 at_, .int .u8 c] w fun e w' => e = .returned (.bool true) ∧ Ch [] w w' := by
 simp only [fits] at ha hc
 refine calls_of (n := 61) (E := [(0, .agg (Blq.c q).toArray), (1, .int .u16 at_), (2, .int .u8 c)]) (W := Hp w [] []) Try.func5 rfl rfl (Nat.le_of_ble_eq_true rfl) rfl (Hp.nil _ _) ?_
 refine jsr ?_
 refine jl_m rfl (by decide) rfl (m_box rfl rfl) (fun b3 => ?_)
 refine jz ?_
 refine jnt ?_
 refine jsr ?_
 refine jz ?_
 refine jl_gcallL rfl (by decide) rfl (goes_func rfl) (fun w1 hw1 => cutbk_any q w1 (hE.keep hw1)) (fun r => ?_)
 refine jst ?_
 refine jnt ?_
 refine jc_seq ?_
 refine jc_pure (p := r.1.l.length ≤ r.1.cp) (fun w h => row_cap (h.get (.tail _ (.head _)))) (fun hcap => ?_)
 have hlow := low_cut r.2 hf.txs
 refine jc_region ?_
 refine jz ?_
 refine jz ?_
 refine jz ?_
 refine jz ?_
 refine jy (y_len_slice rfl) ?_
 refine jy (y_min rfl rfl) ?_
 refine jy (y_sl_hi rfl rfl (by omega) (by omega)) ?_
 refine jl_as (u := .slice r.1.ad (r.1.l.take 4).length r.1.cp) (by rw [List.length_take]; exact congrArg (fun n => Value.slice r.1.ad n r.1.cp) (by omega)) ?_
 refine jz ?_
 refine jst ?_
 refine jnt ?_
 refine jc_seq ?_
 refine jc_rebase (fun wx hbx => ?_)
 have cB0 := Cutd.of r.2 hf hbx (fun A hA => .tail _ hA)
 have cB := cB0.take 4
 have hB : Old wx b3 0 (Blq.c (⟨r.1.height, r.1.prev, r.1.l.take 4, r.1.ad, r.1.cp⟩ : Blq)) := Old.of_cells (hbx.get mem0)
 have hez := bkEnc_size (⟨r.1.height, r.1.prev, r.1.l.take 4, r.1.ad, r.1.cp⟩ : Blq).b
 have hcf := cB.fits
 refine jc_region ?_
 refine jy (y_loadAgg_old rfl rfl hB (by simp)) ?_
 refine jpc (goes_func rfl) (fun w1 hw1 => bkenc_any (⟨r.1.height, r.1.prev, r.1.l.take 4, r.1.ad, r.1.cp⟩ : Blq) w1 cB.len (cB.keep hw1).at_ cB.low cB.fit cB.high) ?_
 refine jz ?_
 refine jnt ?_
 refine jc_seq ?_
 refine jsr ?_
 refine jz ?_
 refine jy (y_seql rfl rfl) ?_
 refine jl_prop (fun h25 => ?_) (fun h25 => ?_)
 ·skip
  refine jnt ?_
  refine jc_true rfl ?_
  refine jc_seq ?_
  have hrf : bkRight (⟨r.1.height, r.1.prev, r.1.l.take 4, r.1.ad, r.1.cp⟩ : Blq).b = false := by
   have := bkEnc_nil (⟨r.1.height, r.1.prev, r.1.l.take 4, r.1.ad, r.1.cp⟩ : Blq).b
   rw [decide_eq_true (by assumption)] at this
   simpa using this.symm
  refine jc_region ?_
  refine jy (y_loadAgg_old rfl rfl hB (by simp)) ?_
  refine jpc (goes_func rfl) (fun w1 hw1 => cq (bkright_any (⟨r.1.height, r.1.prev, r.1.l.take 4, r.1.ad, r.1.cp⟩ : Blq) w1 cB.len (cB.keep hw1).at_ cB.low) (congrArg Value.bool hrf)) ?_
  refine jz ?_
  refine jz ?_
  refine jpc (goes_func rfl) (fun w1 hw1 => fixed10_any w1) ?_
  refine jy (y_pick_true rfl rfl) ?_
  refine jz ?_
  refine jnt ?_
  refine jc_ret ?_
  refine jq_then_ret ?_
  refine jq_ret1 rfl rfl ?_
  exact fun _ hw => ⟨rfl, (hbx.ch.then hw.ch)⟩
 ·skip
  refine jnt ?_
  refine jc_false rfl ?_
  refine jc_skip ?_
  refine jq_then ?_
  refine jc_seq ?_
  have hr : bkRight (⟨r.1.height, r.1.prev, r.1.l.take 4, r.1.ad, r.1.cp⟩ : Blq).b = true := by
   have := bkEnc_nil (⟨r.1.height, r.1.prev, r.1.l.take 4, r.1.ad, r.1.cp⟩ : Blq).b
   rw [decide_eq_false (by assumption)] at this
   simpa using this.symm
  have hpz : 0 < (bkEnc (⟨r.1.height, r.1.prev, r.1.l.take 4, r.1.ad, r.1.cp⟩ : Blq).b).size := Nat.pos_of_ne_zero fun e => absurd (size_zero.1 e) (by assumption)
  have hm0 := Int.emod_nonneg at_ (show (((bkEnc (⟨r.1.height, r.1.prev, r.1.l.take 4, r.1.ad, r.1.cp⟩ : Blq).b).size : Nat) : Int) ≠ 0 by omega)
  have hm1 := Int.emod_lt_of_pos at_ (show 0 < (((bkEnc (⟨r.1.height, r.1.prev, r.1.l.take 4, r.1.ad, r.1.cp⟩ : Blq).b).size : Nat) : Int) by omega)
  obtain ⟨k, hk⟩ : ∃ k : Nat, (k : Int) = at_ % (((bkEnc (⟨r.1.height, r.1.prev, r.1.l.take 4, r.1.ad, r.1.cp⟩ : Blq).b).size : Nat) : Int) := ⟨(at_ % (((bkEnc (⟨r.1.height, r.1.prev, r.1.l.take 4, r.1.ad, r.1.cp⟩ : Blq).b).size : Nat) : Int)).toNat, by omega⟩
  have hcut := bkErr_cut (S := ((bkEnc (⟨r.1.height, r.1.prev, r.1.l.take 4, r.1.ad, r.1.cp⟩ : Blq).b).extract 0 k)) hr ints_pre (by rw [ByteArray.size_extract]; omega)
  have hmore := bkErr_more (s := oneB c) hr hcf (by rw [oneB_size]; decide)
  refine jc_region ?_
  refine jz ?_
  refine jz ?_
  first | refine jy (y_conv_fits rfl (by simp only [fits]; omega)) ?_
  refine jz ?_
  refine jy (y_len_str rfl) ?_
  refine jy (y_rem rfl rfl (by omega) (by omega)) ?_
  refine jl_as (u := .int .i64 ((k : Nat) : Int)) (congrArg (Value.int .i64) hk.symm) ?_
  refine jy (y_substr_hi rfl rfl (by omega) (by omega)) ?_
  refine jl_as (u := .string ((bkEnc (⟨r.1.height, r.1.prev, r.1.l.take 4, r.1.ad, r.1.cp⟩ : Blq).b).extract 0 k)) rfl ?_
  refine jl_gcallL rfl (by decide) rfl (goes_func rfl) (fun w1 hw1 => bkdecE2 w1 (by rw [ByteArray.size_extract]; omega) hcut) (fun d1 => ?_)
  refine jz ?_
  refine jz ?_
  refine jz ?_
  refine jl_m rfl (by decide) rfl (m_alloc) (fun b8 => ?_)
  refine jst ?_
  refine jz ?_
  refine jnt ?_
  refine jc_seq ?_
  refine jc_world (fun _ h => h.part (F := []) .nil) ?_
  refine jc_region ?_
  refine jz ?_
  refine jz ?_
  refine jl_m rfl (by decide) rfl (m_buildSlice (by decide) (Built.cell rfl rfl rfl (by repeat constructor) Built.nil)) (fun b46 => ?_)
  refine jy (y_str_own rfl (by first | exact mem0 | exact mem1 | exact mem2 | exact mem3 | exact mem4 | exact mem5) (by repeat constructor)) ?_
  refine jl_as (u := .string (oneB c)) (congrArg Value.string (by unfold oneB; rw [show c % 256 = c by omega])) ?_
  refine jy (y_concat rfl rfl (by (rw [oneB_size]; omega))) ?_
  refine jl_gcallL rfl (by decide) rfl (goes_func rfl) (fun w1 hw1 => bkdecE2 w1 (by rw [ByteArray.size_append, oneB_size]; omega) hmore) (fun d2 => ?_)
  refine jz ?_
  refine jz ?_
  refine jz ?_
  refine jl_m rfl (by decide) rfl (m_alloc) (fun b10 => ?_)
  refine jst ?_
  refine jz ?_
  refine jnt ?_
  refine jsr ?_
  refine jz ?_
  refine jy (y_eql rfl rfl) ?_
  refine jl_prop (fun h53 => ?_) (fun h53 => ?_)
  ·first
   | (exfalso; omega)
   | (
    refine jz ?_
    refine jz ?_
    refine jy (y_eql rfl rfl) ?_
    refine jl_prop (fun h56 => ?_) (fun h56 => ?_)
    ·first
     | (exfalso; omega)
     | (
      refine jy (y_pick_true rfl rfl) ?_
      refine jz ?_
      refine jpc (goes_func rfl) (fun w1 hw1 => fixed10_any w1) ?_
      refine jy (y_pick_true rfl rfl) ?_
      refine jz ?_
      refine jnt ?_
      refine jc_ret ?_
      refine jq_ret1 rfl rfl ?_
      exact fun _ hw => ⟨rfl, (hbx.ch.then hw.ch)⟩
      )
    ·first
     | (exfalso; omega)
     | (
      refine jy (y_pick_true rfl rfl) ?_
      refine jz ?_
      refine jsk ?_
      refine jy (y_pick_false rfl rfl) ?_
      refine jz ?_
      refine jnt ?_
      refine jc_ret ?_
      refine jq_ret1 rfl rfl ?_
      exact fun _ hw => ⟨rfl, (hbx.ch.then hw.ch)⟩
      )
    )
  ·first
   | (exfalso; omega)
   | (
    refine jz ?_
    refine jsk ?_
    refine jsk ?_
    refine jy (y_pick_false rfl rfl) ?_
    refine jz ?_
    refine jsk ?_
    refine jy (y_pick_false rfl rfl) ?_
    refine jz ?_
    refine jnt ?_
    refine jc_ret ?_
    refine jq_ret1 rfl rfl ?_
    exact fun _ hw => ⟨rfl, (hbx.ch.then hw.ch)⟩
    )

end Go.Proofs.Ytomhcibbalhgkaa

namespace Go.Proofs.Ytomhcibbalhgkaa
open Go.RowKit
set_option maxRecDepth 100000
set_option maxHeartbeats 4000000
set_option linter.unusedVariables false
set_option linter.unusedSimpArgs false
def sgT (s : ByteArray) (t : Trx) : Trx := ⟨sgN s t.ins t.ins.length, t.outs, t.pf⟩
def sgk (s : ByteArray) (q : Txq) (k : Nat) : Txq := ⟨⟨sgN s q.t.ins k, q.t.outs, q.t.pf⟩, q.a1, q.c1, q.a2, q.c2, q.a3, q.c3⟩
def sgq (s : ByteArray) (q : Txq) : Txq := sgk s q q.t.ins.length
def sgM (s : ByteArray) (l : List Txq) (i : Nat) : List Txq := (l.take i).map (sgq s) ++ l.drop i
theorem sgq_c (s : ByteArray) (q : Txq) : Txq.c (sgq s q) = Txq.c q := by
  unfold sgq sgk
  simp only [Txq.c, Trx.c, sgN_length]
theorem sgq_flat (s : ByteArray) (l : List Txq) : (l.map (sgq s)).flatMap Txq.c = l.flatMap Txq.c := by
  rw [List.flatMap_map]
  exact congrArg (fun f => l.flatMap f) (funext fun q => sgq_c s q)
def sgRest (ti to tw : Nat) (s : ByteArray) (l : List Txq) (i : Nat) (q : Txq) : List HA :=
  .row q.a2 q.t.outs.length q.c2 to 9 (q.t.outs.flatMap Oup.c) :: .row q.a3 q.t.pf.wins.length q.c3 tw 10 (q.t.pf.wins.flatMap Wn.c) :: (rowsQ ti to tw ((l.take i).map (sgq s)) ++ rowsQ ti to tw (l.drop (i + 1)))
theorem rows_mid (ti to tw : Nat) (A B : List Txq) (q : Txq) : (rowsQ ti to tw (A ++ q :: B)).Perm (q.rows ti to tw ++ (rowsQ ti to tw A ++ rowsQ ti to tw B)) := by
  have h : rowsQ ti to tw (A ++ q :: B) = rowsQ ti to tw A ++ (q.rows ti to tw ++ rowsQ ti to tw B) := by unfold rowsQ; simp
  rw [h, ← List.append_assoc, ← List.append_assoc]
  exact List.perm_append_comm.append_right _
theorem sg_open {ti to tw : Nat} {s : ByteArray} {l : List Txq} {i : Nat} {q : Txq} (h : i < l.length) (hq : l[i] = q) : (rowsQ ti to tw (sgM s l i)).Perm (.row q.a1 q.t.ins.length q.c1 ti 4 ((sgN s q.t.ins 0).flatMap Inp.c) :: sgRest ti to tw s l i q) := by
  unfold sgM
  rw [List.drop_eq_getElem_cons h, hq]
  exact rows_mid ti to tw _ _ q
theorem sg_shut {ti to tw : Nat} {s : ByteArray} {l : List Txq} {i : Nat} {q : Txq} (h : i < l.length) (hq : l[i] = q) : (HA.row q.a1 q.t.ins.length q.c1 ti 4 ((sgN s q.t.ins q.t.ins.length).flatMap Inp.c) :: sgRest ti to tw s l i q).Perm (rowsQ ti to tw (sgM s l (i + 1))) := by
  have h1 : sgM s l (i + 1) = (l.take i).map (sgq s) ++ sgq s q :: l.drop (i + 1) := by
    unfold sgM
    rw [List.take_succ_eq_append_getElem h, List.map_append, hq]; simp
  rw [h1]
  refine ((rows_mid ti to tw _ _ (sgq s q)).trans ?_).symm
  have h2 : (sgq s q).t.ins.length = q.t.ins.length := sgN_length _ _ _
  have h3 : (sgq s q).rows ti to tw = [.row q.a1 q.t.ins.length q.c1 ti 4 ((sgN s q.t.ins q.t.ins.length).flatMap Inp.c), .row q.a2 q.t.outs.length q.c2 to 9 (q.t.outs.flatMap Oup.c), .row q.a3 q.t.pf.wins.length q.c3 tw 10 (q.t.pf.wins.flatMap Wn.c)] := by
    show [HA.row q.a1 (sgq s q).t.ins.length q.c1 ti 4 _, _, _] = _
    rw [h2]; rfl
  rw [h3]
  exact List.Perm.refl _
theorem perm3 {A B C : HA} {L R : List HA} (p : L.Perm (C :: R)) : (A :: B :: L).Perm (C :: A :: B :: R) := ((p.cons B).cons A).trans (List.perm_middle (l₁ := [A, B]))
theorem perm4 {A B C : HA} {L R : List HA} (p : (C :: R).Perm L) : (C :: A :: B :: R).Perm (A :: B :: L) := (perm3 p.symm).symm
theorem ctBk_ct (b : Blk) : ctBk (ctBk b) = ctBk b := by
  unfold ctBk
  simp only [cut_cut]
  congr 1
  rw [← List.map_take, List.take_take, List.map_map]
  exact congrArg (fun f => (b.txs.take _).map f) (funext ctTx_ct)
theorem sg_b {s : ByteArray} {a : Blk} {dh : Int} {dp : ByteArray} {l : List Txq} {da : Option Addr} {dc : Nat} (h : (Blq.mk dh dp l da dc).b = a) : (Blq.mk dh dp (l.map (sgq s)) da dc).b = ⟨a.height, a.prev, a.txs.map (sgT s)⟩ := by
  subst h
  show Blk.mk _ _ _ = Blk.mk _ _ _
  congr 1
  show (l.map (sgq s)).map Txq.t = (l.map Txq.t).map (sgT s)
  rw [List.map_map, List.map_map]
  rfl
theorem bkID_sig {a : Blk} {s : ByteArray} (ha : bkRight a = true) (hu : bkRight ⟨a.height, a.prev, a.txs.map (sgT s)⟩ = true) : bkID a = bkID ⟨a.height, a.prev, a.txs.map (sgT s)⟩ := by
  have ra := (bkRight_iff.1 ha).2.2.2.2
  have ru := (bkRight_iff.1 hu).2.2.2.2
  unfold bkID
  rw [if_pos ha, if_pos hu]
  have h1 : (a.txs.map (sgT s)).map txID = a.txs.map txID := by
    rw [List.map_map]
    exact List.map_congr_left fun t ht => id_same (core_same (ru _ (List.mem_map.2 ⟨t, ht, rfl⟩)) (ra t ht) (sgN_strip s t.ins) rfl)
  rw [h1]
theorem bkID_len {a : Blk} (h : bkRight a = true) : (bkID a).size = 16 := by unfold bkID; rw [if_pos h]; exact tagS_size _ _
theorem bkID_not {a : Blk} (h : bkRight a = false) : bkID a = ⟨#[]⟩ := by unfold bkID; rw [if_neg (by rw [h]; decide)]
theorem bool3' (a b : Bool) : a = false ∨ (a = true ∧ b = false) ∨ (a = true ∧ b = true) := by cases a <;> cases b <;> simp
theorem Cutd.sig {s : ByteArray} {dh : Int} {dp : ByteArray} {l : List Txq} {da : Option Addr} {dc : Nat} {w0 w : World} {S : List Nat} {H : List HA} {b : Blk} (h : (Blq.mk dh dp l da dc).b = ctBk b) (hf : b.Fit) (hp : Hp w0 S H w) (hm : ∀ A ∈ (Blq.mk dh dp (l.map (sgq s)) da dc).rows 41 45 75 113, A ∈ H) : Cutd (Blq.mk dh dp (l.map (sgq s)) da dc) w 0 := by
  have hl := low_cut h hf.txs
  refine ⟨txs_rows hp hm, fun x hx => ?_, fun x hx => ?_, ?_, ?_⟩
  · obtain ⟨y, hy, rfl⟩ := List.mem_map.1 hx
    have := hl.1 y hy
    exact ⟨by show (sgN s y.t.ins _).length ≤ _; rw [sgN_length]; exact this.a, this.b, this.d⟩
  · obtain ⟨y, hy, rfl⟩ := List.mem_map.1 hx
    have := hl.2.1 y hy
    exact ⟨sgN_fit this.ins, this.outs, this.pf⟩
  · show (l.map (sgq s)).length ≤ _
    rw [List.length_map]; have h9 : l.length ≤ 9 := hl.2.2; omega
  · have e : dh = b.height := congrArg Blk.height h
    subst e; exact hf.height
theorem sgM_all (s : ByteArray) (l : List Txq) : sgM s l l.length = l.map (sgq s) := by unfold sgM; rw [List.take_length, List.drop_length, List.append_nil]

theorem blockNames_any (q : Blq) (sig : ByteArray) (w : World) (hf : q.b.Fit) (hE : TxsAt w q.ad q.l) :
  Calls Try.prog 4 #[.agg (Blq.c q).toArray, .string sig] w fun e w' => e = .returned (.bool true) ∧ Ch [] w w' := by
 have hss := cutS_size sig 400
 refine calls_of (n := 76) (E := [(0, .agg (Blq.c q).toArray), (1, .string sig)]) (W := Hp w [] []) Try.func4 rfl rfl (Nat.le_of_ble_eq_true rfl) rfl (Hp.nil _ _) ?_
 refine jsr ?_
 refine jl_m rfl (by decide) rfl (m_box rfl rfl) (fun b2 => ?_)
 refine jz ?_
 refine jnt ?_
 refine jsr ?_
 refine jz ?_
 refine jl_gcallL rfl (by decide) rfl (goes_func rfl) (fun w1 hw1 => cutbk_any q w1 (hE.keep hw1)) (fun r => ?_)
 refine jst ?_
 refine jnt ?_
 refine jc_seq ?_
 refine jc_rebase (fun wx hbx => ?_)
 have hB : Old wx b2 0 (Blq.c r.1) := Old.of_cells (hbx.get mem0)
 have cB := Cutd.of r.2 hf hbx (fun A hA => .tail _ hA)
 have hrf : r.1.b.Fit := ⟨cB.high, cB.fits⟩
 refine jc_region ?_
 refine jy (y_loadAgg_old rfl rfl hB (by simp)) ?_
 refine jl_gcallL rfl (by decide) rfl (goes_func rfl) (fun w1 hw1 => cutbk_any r.1 w1 (cB.keep hw1).at_) (fun d => ?_)
 refine jl_m rfl (by decide) rfl (m_alloc) (fun b5 => ?_)
 refine jst ?_
 refine jnt ?_
 refine jc_seq ?_
 refine jc_seq ?_
 obtain ⟨⟨dh, dp, l, da, dc⟩, hd⟩ := d
 have hlow := low_cut hd hrf.txs
 have hl9 : l.length ≤ 9 := hlow.2.2
 refine jc_world (fun _ h => (h : Hp wx [] (.cells b5 (Blq.c ⟨dh, dp, l, da, dc⟩) :: .row da l.length dc 41 6 (l.flatMap Txq.c) :: rowsQ 45 75 113 (sgM (cutS sig 400) l 0)) _)) ?_
 refine jc_region ?_
 refine jz ?_
 refine jnt ?_
 refine jc_block ?_
 refine jc_loop (fun (i : Nat) => [(1, .string sig), (2, .pointer (some ⟨b2, 0, none⟩)), (5, .pointer (some ⟨b5, 0, none⟩)), (6, .int .i64 (i : Nat))]) (fun (i : Nat) => fun w' => i ≤ l.length ∧ Hp wx [] (.cells b5 (Blq.c ⟨dh, dp, l, da, dc⟩) :: .row da l.length dc 41 6 (l.flatMap Txq.c) :: rowsQ 45 75 113 (sgM (cutS sig 400) l i)) w') (fun (i : Nat) => l.length - i) 0 ?_ ?_ ?_
 ·exact ⟨rfl, rfl, rfl, rfl, trivial⟩
 ·exact fun _ h => ⟨by omega, h⟩
 ·intro i
  refine jc_and (fun hi => ?_)
  refine jc_seq ?_
  refine jsr ?_
  refine jz ?_
  refine jz ?_
  refine jz ?_
  refine jy (y_len_slice rfl) ?_
  refine jl_as (u := .int .i64 ((l.length : Nat) : Int)) rfl ?_
  refine jy (y_lss rfl rfl) ?_
  refine jl_prop (fun h16 => ?_) (fun h16 => ?_)
  ·first
   | (exfalso; omega)
   | (
    refine jnt ?_
    refine jc_true rfl ?_
    refine jc_skip ?_
    refine jq_then ?_
    refine jc_seq ?_
    refine jc_block ?_
    refine jc_seq ?_
    have hlt : i < l.length := by omega
    refine jc_pure (p := ∃ b, da = some ⟨b, 0, none⟩) (fun w h => row_some (h.get mem1) (by omega)) (fun hb => ?_)
    obtain ⟨ba, rfl⟩ := hb
    have hcl : ∀ j u, (Txq.c l[i])[j]? = some u → (l.flatMap Txq.c)[i * 6 + j]? = some u := fun j u hj => by
     rw [flat_get (c := Txq.c) (sz := 6) (fun _ => rfl) l i j hlt (List.getElem?_eq_some_iff.1 hj).1]; exact hj
    have hq6 := (hlow.1 _ (List.getElem_mem hlt)).a
    obtain ⟨⟨⟨tins, touts, tpf⟩, a1, c1, a2, c2, a3, c3⟩, hxe⟩ : ∃ q, l[i] = q := ⟨_, rfl⟩
    rw [hxe] at hcl hq6
    have hq6 : tins.length ≤ 1000000000 := hq6
    refine jc_world (fun _ h => h.perm (perm3 (sg_open (s := (cutS sig 400)) hlt hxe))) ?_
    refine jc_region ?_
    refine jz ?_
    refine jnt ?_
    refine jc_block ?_
    refine jc_loop (fun (k : Nat) => [(1, .string sig), (2, .pointer (some ⟨b2, 0, none⟩)), (5, .pointer (some ⟨b5, 0, none⟩)), (6, .int .i64 (i : Nat)), (7, .int .i64 (k : Nat))]) (fun (k : Nat) => fun w' => k ≤ tins.length ∧ Hp wx [] (.row a1 tins.length c1 45 4 ((sgN (cutS sig 400) tins k).flatMap Inp.c) :: .cells b5 (Blq.c ⟨dh, dp, l, some ⟨ba, 0, none⟩, dc⟩) :: .row (some ⟨ba, 0, none⟩) l.length dc 41 6 (l.flatMap Txq.c) :: sgRest 45 75 113 (cutS sig 400) l i (⟨⟨tins, touts, tpf⟩, a1, c1, a2, c2, a3, c3⟩ : Txq)) w') (fun (k : Nat) => tins.length - k) 0 ?_ ?_ ?_
    ·exact ⟨rfl, rfl, rfl, rfl, rfl, trivial⟩
    ·exact fun _ h => ⟨by omega, h⟩
    ·intro k
     refine jc_and (fun hk => ?_)
     refine jc_seq ?_
     refine jsr ?_
     refine jz ?_
     refine jz ?_
     refine jy (y_load rfl mem1 rfl) ?_
     refine jz ?_
     refine jy (y_indexAddr_slice (off := i * 6) rfl rfl (by omega) (by omega) (by omega)) ?_
     refine jz ?_
     refine jy (y_load_row rfl mem2 (hcl 0 _ rfl)) ?_
     refine jy (y_len_slice rfl) ?_
     refine jl_as (u := .int .i64 ((tins.length : Nat) : Int)) rfl ?_
     refine jy (y_lss rfl rfl) ?_
     refine jl_prop (fun h27 => ?_) (fun h27 => ?_)
     ·first
      | (exfalso; omega)
      | (
       have hkt : k < tins.length := by omega
       refine jl_pure (p := ∃ b, a1 = some ⟨b, 0, none⟩) (fun w h => row_some (h.get mem0) (by omega)) (fun hb => ?_)
       obtain ⟨bb, rfl⟩ := hb
       refine jnt ?_
       refine jc_true rfl ?_
       refine jc_skip ?_
       refine jq_then ?_
       refine jc_seq ?_
       refine jc_block ?_
       refine jc_tail 14 (by kernel_rfl) (fun _ h => h.drew) ?_
       simp only [List.take_succ_cons, List.take_zero, List.drop_succ_cons, List.drop_zero]
       refine jtz ?_
       refine jty (y_load rfl mem1 rfl) ?_
       refine jtz ?_
       refine jty (y_indexAddr_slice (off := i * 6) rfl rfl (by omega) (by omega) (by omega)) ?_
       refine jtz ?_
       refine jty (y_load_row rfl mem2 (hcl 0 _ rfl)) ?_
       refine jtz ?_
       refine jtz ?_
       refine jtz ?_
       refine jty (y_len_str rfl) ?_
       refine jty (y_min rfl rfl) ?_
       refine jty (y_substr_hi rfl rfl (by omega) (by omega)) ?_
       refine jt_as (congrArg Value.string (cut_eq _ 400)) ?_
       refine jty (y_indexAddr_slice (off := k * 4) rfl rfl (by omega) (by omega) (by omega)) ?_
       refine jtz ?_
       refine jt_nil ?_
       refine jl_w rfl rfl (w_store_row rfl rfl rfl (by rw [flat_length, sgN_length]; omega) rep0) ?_
       refine jl_nil ?_
       refine jq_block ?_
       refine jq_then ?_
       refine jc_region ?_
       refine jz ?_
       refine jy (y_add_fits rfl rfl (by simp only [fits]; omega)) ?_
       refine jz ?_
       refine jl_nil ?_
       refine jq_round (i := k) (k + 1) ?_ ?_ ?_
       ·omega
       ·exact ⟨rfl, rfl, rfl, rfl, lk_int rfl (by omega), trivial⟩
       ·exact fun _ h => ⟨by omega, h.cast (by rw [sgN_next hkt])⟩
       )
     ·first
      | (exfalso; omega)
      | (
       refine jnt ?_
       refine jc_false rfl ?_
       refine jc_exit ?_
       refine jq_then_exit ?_
       refine jq_then_exit ?_
       refine jq_hit ?_
       refine jq_block ?_
       refine jq_then ?_
       refine jc_region ?_
       refine jz ?_
       refine jy (y_add_fits rfl rfl (by simp only [fits]; omega)) ?_
       refine jz ?_
       refine jl_nil ?_
       have hke : k = tins.length := by omega
       subst hke
       refine jq_round (i := i) (i + 1) ?_ ?_ ?_
       ·omega
       ·exact ⟨rfl, rfl, rfl, lk_int rfl (by omega), trivial⟩
       ·exact fun _ h => ⟨by omega, h.perm (perm4 (sg_shut (s := (cutS sig 400)) hlt hxe))⟩
       )
    )
  ·first
   | (exfalso; omega)
   | (
    refine jnt ?_
    refine jc_false rfl ?_
    refine jc_exit ?_
    refine jq_then_exit ?_
    refine jq_then_exit ?_
    refine jq_hit ?_
    refine jq_then ?_
    refine jc_seq ?_
    refine jc_seq ?_
    have hie : i = l.length := by omega
    subst hie
    have hdb : (Blq.mk dh dp l da dc).b = r.1.b := by rw [hd, r.2, ctBk_ct]
    refine jc_world (fun _ h => h.cast (H' := .cells b5 (Blq.c (⟨dh, dp, l.map (sgq (cutS sig 400)), da, dc⟩ : Blq)) :: Blq.rows 41 45 75 113 (⟨dh, dp, l.map (sgq (cutS sig 400)), da, dc⟩ : Blq)) (by unfold Blq.rows; rw [sgM_all, sgq_flat]; simp only [Blq.c, List.length_map])) ?_
    refine jc_rebase (fun wy hby => ?_)
    have hU : Old wy b5 0 (Blq.c (⟨dh, dp, l.map (sgq (cutS sig 400)), da, dc⟩ : Blq)) := Old.of_cells (hby.get mem0)
    have cU := Cutd.sig (s := (cutS sig 400)) hd hrf hby (fun A hA => .tail _ hA)
    obtain ⟨u, hu⟩ : ∃ u, (⟨dh, dp, l.map (sgq (cutS sig 400)), da, dc⟩ : Blq) = u := ⟨_, rfl⟩
    have hub : u.b = ⟨r.1.b.height, r.1.b.prev, r.1.b.txs.map (sgT (cutS sig 400))⟩ := by rw [← hu]; exact sg_b hdb
    rw [hu] at hU cU
    replace hB := hB.keep hby
    replace cB := cB.keep hby
    rcases bool3' (bkRight r.1.b) (bkRight u.b) with hr | ⟨hr, hv⟩ | ⟨hr, hv⟩
    ·skip
     refine jc_region ?_
     refine jy (y_loadAgg_old rfl rfl hB (by simp)) ?_
     refine jpc (goes_func rfl) (fun w1 hw1 => bkright_any r.1 w1 cB.len (cB.keep hw1).at_ cB.low) ?_
     refine jl_as (u := .bool false) (congrArg Value.bool (hr)) ?_
     refine jz ?_
     refine jz ?_
     refine jsk ?_
     refine jsk ?_
     refine jsk ?_
     refine jy (y_pick_true rfl rfl) ?_
     refine jnt ?_
     refine jc_true rfl ?_
     refine jsr ?_
     refine jy (y_loadAgg_old rfl rfl hB (by simp)) ?_
     refine jpc (goes_func rfl) (fun w1 hw1 => bkright_any r.1 w1 cB.len (cB.keep hw1).at_ cB.low) ?_
     refine jl_as (u := .bool false) (congrArg Value.bool (hr)) ?_
     refine jz ?_
     refine jy (y_loadAgg_old rfl rfl hB (by simp)) ?_
     refine jpc (goes_func rfl) (fun w1 hw1 => bkid_any r.1 w1 cB.len (cB.keep hw1).at_ cB.low cB.fit cB.high) ?_
     refine jy (y_seql rfl rfl) ?_
     refine jl_as (u := .bool true) (congrArg (fun b => Value.bool b) (decide_eq_true (bkID_not hr))) ?_
     refine jy (y_pick_false rfl rfl) ?_
     refine jz ?_
     refine jpc (goes_func rfl) (fun w1 hw1 => fixed10_any w1) ?_
     refine jy (y_pick_true rfl rfl) ?_
     refine jz ?_
     refine jnt ?_
     refine jc_ret ?_
     refine jq_then_ret ?_
     refine jq_ret1 rfl rfl ?_
     exact fun _ hw => ⟨rfl, (hbx.ch.then (hby.ch.then hw.ch))⟩
    ·skip
     refine jc_region ?_
     refine jy (y_loadAgg_old rfl rfl hB (by simp)) ?_
     refine jpc (goes_func rfl) (fun w1 hw1 => bkright_any r.1 w1 cB.len (cB.keep hw1).at_ cB.low) ?_
     refine jl_as (u := .bool true) (congrArg Value.bool (hr)) ?_
     refine jz ?_
     refine jz ?_
     refine jy (y_loadAgg_old rfl rfl hU (by simp)) ?_
     refine jpc (goes_func rfl) (fun w1 hw1 => bkright_any u w1 cU.len (cU.keep hw1).at_ cU.low) ?_
     refine jl_as (u := .bool false) (congrArg Value.bool (hv)) ?_
     refine jz ?_
     refine jy (y_pick_false rfl rfl) ?_
     refine jnt ?_
     refine jc_true rfl ?_
     refine jsr ?_
     refine jy (y_loadAgg_old rfl rfl hB (by simp)) ?_
     refine jpc (goes_func rfl) (fun w1 hw1 => bkright_any r.1 w1 cB.len (cB.keep hw1).at_ cB.low) ?_
     refine jl_as (u := .bool true) (congrArg Value.bool (hr)) ?_
     refine jz ?_
     refine jsk ?_
     refine jsk ?_
     refine jsk ?_
     refine jy (y_pick_true rfl rfl) ?_
     refine jz ?_
     refine jpc (goes_func rfl) (fun w1 hw1 => fixed10_any w1) ?_
     refine jy (y_pick_true rfl rfl) ?_
     refine jz ?_
     refine jnt ?_
     refine jc_ret ?_
     refine jq_then_ret ?_
     refine jq_ret1 rfl rfl ?_
     exact fun _ hw => ⟨rfl, (hbx.ch.then (hby.ch.then hw.ch))⟩
    ·skip
     refine jc_region ?_
     refine jy (y_loadAgg_old rfl rfl hB (by simp)) ?_
     refine jpc (goes_func rfl) (fun w1 hw1 => bkright_any r.1 w1 cB.len (cB.keep hw1).at_ cB.low) ?_
     refine jl_as (u := .bool true) (congrArg Value.bool (hr)) ?_
     refine jz ?_
     refine jz ?_
     refine jy (y_loadAgg_old rfl rfl hU (by simp)) ?_
     refine jpc (goes_func rfl) (fun w1 hw1 => bkright_any u w1 cU.len (cU.keep hw1).at_ cU.low) ?_
     refine jl_as (u := .bool true) (congrArg Value.bool (hv)) ?_
     refine jz ?_
     refine jy (y_pick_false rfl rfl) ?_
     refine jnt ?_
     refine jc_false rfl ?_
     refine jc_skip ?_
     refine jq_then ?_
     refine jc_seq ?_
     refine jc_drop [4] ?_
     refine jc_free (by kernel_rfl) Hp.stay ?_
     refine jn_y [] rfl rfl (fun w1 hw1 => And.intro rfl (y_loadAgg_old rfl rfl (hB.keep hw1) (by simp))) ?_
     refine jn_call [0] rfl rfl (fun w1 hw1 => And.intro rfl ⟨_, _, goes_func rfl, bkid_any r.1 w1 cB.len (cB.keep hw1).at_ cB.low cB.fit cB.high⟩) ?_
     refine jn_y [] rfl rfl (fun w1 hw1 => And.intro rfl (y_loadAgg_old rfl rfl (hU.keep hw1) (by simp))) ?_
     refine jn_call [2] rfl rfl (fun w1 hw1 => And.intro rfl ⟨_, _, goes_func rfl, bkid_any u w1 cU.len (cU.keep hw1).at_ cU.low cU.fit cU.high⟩) ?_
     refine jn_y [1, 3] rfl rfl (fun w1 hw1 => And.intro rfl (y_seql rfl rfl)) ?_
     refine jn_as (u := .bool true) (congrArg (fun b => Value.bool b) (decide_eq_true (by rw [hub]; exact bkID_sig hr (by rw [← hub]; exact hv)))) ?_
     refine jn_y [4] rfl rfl (fun w1 hw1 => And.intro rfl (y_move rfl)) ?_
     refine jn_y [5] rfl rfl (fun w1 hw1 => And.intro rfl (y_loadAgg_old rfl rfl (hB.keep hw1) (by simp))) ?_
     refine jn_call [5, 6] rfl rfl (fun w1 hw1 => And.intro rfl ⟨_, _, goes_func rfl, bkid_any r.1 w1 cB.len (cB.keep hw1).at_ cB.low cB.fit cB.high⟩) ?_
     refine jn_y [5, 7] rfl rfl (fun w1 hw1 => And.intro rfl (y_len_str rfl)) ?_
     refine jn_y [5, 8] rfl rfl (fun w1 hw1 => And.intro rfl (y_eql rfl rfl)) ?_
     refine jn_as (u := .bool true) (congrArg Value.bool (decide_eq_true (by rw [bkID_len hr]; rfl))) ?_
     refine jn_y [5, 9] rfl rfl (fun w1 hw1 => And.intro rfl (y_pick_true rfl rfl)) ?_
     refine jn_y [10] rfl rfl (fun w1 hw1 => And.intro rfl (y_move rfl)) ?_
     refine jn_call [11] rfl rfl (fun w1 hw1 => And.intro rfl ⟨_, _, goes_func rfl, fixed10_any w1⟩) ?_
     refine jn_y [11, 12] rfl rfl (fun w1 hw1 => And.intro rfl (y_pick_true rfl rfl)) ?_
     refine jn_y [13] rfl rfl (fun w1 hw1 => And.intro rfl (y_assign rfl)) ?_
     refine jn_nil [14] (by decide) (fun w1 hw1 => jq_at hw1 ?_)
     refine jq_then ?_
     refine jc_ret ?_
     refine jq_ret1 rfl rfl ?_
     exact fun _ hw => ⟨rfl, (hbx.ch.then (hby.ch.then hw.ch))⟩
    )

end Go.Proofs.Ytomhcibbalhgkaa
