/- The walks of package note, part three: signed tickets, what was won, what a proof is worth. Written by program (walk.py) out of a table of contracts and invariants. -/
import Derived.Test.YtghomncegjamfaaGreatMpay
import Derived.Test.YtghomncegjamfaaGreatNu
import Derived.Test.YtghomncegjamfaaGreatJk
import Derived.Test.YtghomncegjamfaaGreatNo
import Derived.Test.YtghomncegjamfaaGreatMk2
import Derived.Test.YtghomncegjamfaaGreatDr
import Derived.Test.YtghomncegjamfaaGreatMwor
namespace Go.Proofs.YtghomncegjamfaaGreat
open Go.RowKit
set_option maxRecDepth 100000
set_option linter.unusedVariables false
set_option linter.unusedSimpArgs false
attribute [local irreducible] Yields Makes Writes
/-- A chain lies there. -/
def ChainAt (w : World) (b : Nat) (seed : ByteArray) (n : Nat) : Prop := ∃ bl, w.cell? ⟨b, 0, none⟩ = some (.slice (some ⟨bl, 0, none⟩) (n + 1) (n + 1)) ∧ Strs w (some ⟨bl, 0, none⟩) (toks seed n)
theorem ChainAt.keep {w w1 : World} {b n : Nat} {seed : ByteArray} {H : List HA} (h : ChainAt w b seed n) (hw : Hp w [] H w1) : ChainAt w1 b seed n := let ⟨bl, h1, h2⟩ := h; ⟨bl, hw.cell h1 (by simp), h2.keep hw⟩
def tokV (seed : ByteArray) (n : Nat) (i : Int) : ByteArray := if 0 ≤ i ∧ i ≤ n then tokS seed n i.toNat else ⟨#[]⟩
def tokE (n : Nat) (i : Int) : Int := if 0 ≤ i ∧ i ≤ n then 0 else 1
theorem tok_in {seed : ByteArray} {n : Nat} {i : Int} (h : 0 ≤ i ∧ i ≤ n) : tokV seed n i = tokS seed n i.toNat ∧ tokE n i = 0 := by unfold tokV tokE; rw [if_pos h, if_pos h]; exact ⟨rfl, rfl⟩
theorem tok_out {seed : ByteArray} {n : Nat} {i : Int} (h : ¬ (0 ≤ i ∧ i ≤ n)) : tokV seed n i = ⟨#[]⟩ ∧ tokE n i = 1 := by unfold tokV tokE; rw [if_neg h, if_neg h]; exact ⟨rfl, rfl⟩
theorem strs_at {w : World} {b : Nat} {ps : List ByteArray} {i : Nat} {p : ByteArray} (h : Strs w (some ⟨b, 0, none⟩) ps) (hp : ps[i]? = some p) : w.cell? ⟨b, i, none⟩ = some (.string p) := by
  obtain ⟨b', o', e, hc⟩ := h i p hp
  cases e
  simpa using hc
theorem strs_set {w : World} {b m cap e i : Nat} {ps : List ByteArray} {p : ByteArray} : (ps.map Value.string).set i (.string p) = (ps.set i p).map Value.string := by simp [List.map_set]

end Go.Proofs.YtghomncegjamfaaGreat

namespace Go.Proofs.YtghomncegjamfaaGreat
open Go.RowKit
set_option maxRecDepth 100000
set_option maxHeartbeats 2000000
set_option linter.unusedVariables false
set_option linter.unusedSimpArgs false
attribute [local irreducible] Yields Makes Writes
structure Tm.Fit (t : Tm) : Prop where
  unit : fits .u64 t.unit
  tokens : fits .i64 t.tokens

theorem tkText_small (t : Tk) : (tkText t).size ≤ 10000 := by
  refine Nat.le_trans (wText_size _) ?_; refine wle0 ?_
  apply wle_num; apply wle_blob; apply wle_num; apply wle_num; apply wle_num; apply wle_num; apply wle_blob; apply wle_byte
  decide
theorem vouch_small (c : ByteArray) (n : Int) : (vouch c n).size ≤ 10000 := by
  refine Nat.le_trans (wText_size _) ?_; refine wle0 ?_
  apply wle_num; apply wle_blob; apply wle_byte
  decide
theorem won_arg {cl : ByteArray} {x : Wn} (h : ¬ (tkMay x.t = true ∧ winsE x.drawn x.t.wins x.t.many = 0)) : wonV cl x = 0 ∧ wonE cl x = 1 := by
  have e : wonE cl x = 1 := by unfold wonE; rw [if_neg h]
  exact ⟨by unfold wonV; rw [e]; rfl, e⟩
theorem won_sig {cl : ByteArray} {x : Wn} (h : tkMay x.t = true ∧ winsE x.drawn x.t.wins x.t.many = 0) (h2 : signedB cl x.t = false) : wonV cl x = 0 ∧ wonE cl x = 10 := by
  have e : wonE cl x = 10 := by unfold wonE; rw [if_pos h, if_neg (by rw [h2]; decide)]
  exact ⟨by unfold wonV; rw [e]; rfl, e⟩
theorem won_form {cl : ByteArray} {x : Wn} (h : tkMay x.t = true ∧ winsE x.drawn x.t.wins x.t.many = 0) (h2 : signedB cl x.t = true) (h3 : decide (x.t.commit = commitS x.salt x.drawn) = false) : wonV cl x = 0 ∧ wonE cl x = 4 := by
  have e : wonE cl x = 4 := by unfold wonE; rw [if_pos h, if_pos h2, if_neg (of_decide_eq_false h3)]
  exact ⟨by unfold wonV; rw [e]; rfl, e⟩
theorem won_rule {cl : ByteArray} {x : Wn} (h : tkMay x.t = true ∧ winsE x.drawn x.t.wins x.t.many = 0) (h2 : signedB cl x.t = true) (h3 : decide (x.t.commit = commitS x.salt x.drawn) = true) (h4 : winsB x.drawn x.t.client x.t.wins x.t.many = false) : wonV cl x = 0 ∧ wonE cl x = 13 := by
  have e : wonE cl x = 13 := by unfold wonE; rw [if_pos h, if_pos h2, if_pos (of_decide_eq_true h3), if_neg (by rw [h4]; decide)]
  exact ⟨by unfold wonV; rw [e]; rfl, e⟩
theorem won_ok {cl : ByteArray} {x : Wn} (h : tkMay x.t = true ∧ winsE x.drawn x.t.wins x.t.many = 0) (h2 : signedB cl x.t = true) (h3 : decide (x.t.commit = commitS x.salt x.drawn) = true) (h4 : winsB x.drawn x.t.client x.t.wins x.t.many = true) : wonV cl x = x.t.face ∧ wonE cl x = 0 := by
  have e : wonE cl x = 0 := by unfold wonE; rw [if_pos h, if_pos h2, if_pos (of_decide_eq_true h3), if_pos h4]
  exact ⟨by unfold wonV; rw [e]; rfl, e⟩
theorem paid_no {t : Tm} {p : Pf} (h : paidE t p ≠ 0) : paidV t p = 0 ∧ paidE t p = 10 := by
  refine ⟨by unfold paidV; rw [if_neg h], ?_⟩
  unfold paidE at *
  by_cases h1 : 0 < p.amount
  · rw [if_pos h1] at h ⊢
    split at h
    · exact absurd rfl h
    · rename_i h2; rw [if_neg h2]
  · rw [if_neg h1] at h ⊢
    split at h
    · exact absurd rfl h
    · rename_i h2; rw [if_neg h2]
theorem paid_yes {t : Tm} {p : Pf} (h : paidE t p = 0) : paidV t p = p.amount := by unfold paidV; rw [if_pos h]
theorem tok_none {t : Tm} {p : Pf} (h : p.token = ⟨#[]⟩) : tokensV t p = 0 ∧ tokensE t p = 0 := by unfold tokensV tokensE; rw [if_pos h, if_pos h]; exact ⟨rfl, rfl⟩
theorem tok_bad {t : Tm} {p : Pf} (h : ¬ p.token = ⟨#[]⟩) (h2 : cntE t.anchor p.token t.tokens ≠ 0) : tokensV t p = 0 ∧ tokensE t p = cntE t.anchor p.token t.tokens := by unfold tokensV tokensE; rw [if_neg h, if_neg h, if_neg h2, if_neg h2]; exact ⟨rfl, rfl⟩
theorem tok_good {t : Tm} {p : Pf} (h : ¬ p.token = ⟨#[]⟩) (h2 : cntE t.anchor p.token t.tokens = 0) : tokensV t p = valV (cntV t.anchor p.token t.tokens) t.unit ∧ tokensE t p = valE (cntV t.anchor p.token t.tokens) t.unit := by unfold tokensV tokensE; rw [if_neg h, if_neg h, if_pos h2, if_pos h2]; exact ⟨rfl, rfl⟩
theorem face_step {t : Tm} {l : List Wn} {i : Nat} (hi : i < l.length) (h : facesE t [] l = facesE t ((l.take i).map (·.t.serial)) (l.drop i)) :
    (faceE1 t ((l.take i).map (·.t.serial)) l[i] ≠ 0 → facesE t [] l = faceE1 t ((l.take i).map (·.t.serial)) l[i]) ∧ (faceE1 t ((l.take i).map (·.t.serial)) l[i] = 0 → facesE t [] l = facesE t ((l.take (i + 1)).map (·.t.serial)) (l.drop (i + 1))) := by
  rw [List.drop_eq_getElem_cons hi] at h
  have h2 : ∀ (s : List Int) (x : Wn) (r : List Wn), facesE t s (x :: r) = if faceE1 t s x = 0 then facesE t (s ++ [x.t.serial]) r else faceE1 t s x := fun s x r => rfl
  rw [h2] at h
  refine ⟨fun h1 => by rw [h, if_neg h1], fun h1 => by rw [h, if_pos h1, List.take_succ_eq_append_getElem hi, List.map_append]; rfl⟩
theorem face_no {t : Tm} {l : List Wn} {n : Int} (hn : n ≠ 0) (h : facesE t [] l = n) : facesV t l = [] ∧ facesE t [] l = n := ⟨by unfold facesV; rw [h, if_neg hn], h⟩
theorem face_yes {t : Tm} {l : List Wn} (h : facesE t [] l = facesE t ((l.take l.length).map (·.t.serial)) (l.drop l.length)) : facesV t l = l.map (·.t.face) ∧ facesE t [] l = 0 := by
  rw [List.drop_length] at h
  have h2 : facesE t [] l = 0 := h
  exact ⟨by unfold facesV; rw [if_pos h2], h2⟩
theorem faces_zero {t : Tm} {l : List Wn} (h : facesE t [] l = 0) : facesV t l = l.map (·.t.face) := by unfold facesV; rw [if_pos h]
theorem face_take {l : List Wn} {i : Nat} (h : i < l.length) : (l.take (i + 1)).map (·.t.face) = (l.take i).map (·.t.face) ++ [l[i].t.face] := by
  rw [List.take_succ_eq_append_getElem h, List.map_append]; rfl
theorem ser_take {l : List Wn} {i : Nat} (h : i < l.length) : (l.take (i + 1)).map (·.t.serial) = (l.take i).map (·.t.serial) ++ [l[i].t.serial] := by
  rw [List.take_succ_eq_append_getElem h, List.map_append]; rfl
theorem worth_no {t : Tm} {p : Pf} {n : Int} (hn : n ≠ 0) (h : worthE t p = n) : worthV t p = 0 ∧ worthE t p = n := ⟨by unfold worthV; rw [h, if_neg hn], h⟩
theorem worth_right {t : Tm} {p : Pf} (h : pfRight p = false) : worthV t p = 0 ∧ worthE t p = 1 := worth_no (by decide) (by unfold worthE; rw [if_neg (by rw [h]; decide)])
theorem worth_paid {t : Tm} {p : Pf} (h : pfRight p = true) (h1 : paidE t p ≠ 0) : worthV t p = 0 ∧ worthE t p = paidE t p := worth_no h1 (by unfold worthE; rw [if_pos h, if_neg h1])
theorem worth_tok {t : Tm} {p : Pf} (h : pfRight p = true) (h1 : ¬ paidE t p ≠ 0) (h2 : tokensE t p ≠ 0) : worthV t p = 0 ∧ worthE t p = tokensE t p := worth_no h2 (by unfold worthE; rw [if_pos h, if_pos (Decidable.not_not.1 h1), if_neg h2])
theorem worth_face {t : Tm} {p : Pf} (h : pfRight p = true) (h1 : ¬ paidE t p ≠ 0) (h2 : ¬ tokensE t p ≠ 0) (h3 : facesE t [] p.wins ≠ 0) : worthV t p = 0 ∧ worthE t p = facesE t [] p.wins := worth_no h3 (by unfold worthE; rw [if_pos h, if_pos (Decidable.not_not.1 h1), if_pos (Decidable.not_not.1 h2), if_neg h3])
theorem worth_all {t : Tm} {p : Pf} (h : pfRight p = true) (h1 : ¬ paidE t p ≠ 0) (h2 : ¬ tokensE t p ≠ 0) (h3 : ¬ facesE t [] p.wins ≠ 0) : facesV t p.wins ++ [paidV t p, tokensV t p] = partsA t p ∧ worthV t p = sumA (partsA t p) ∧ worthE t p = sumE (partsA t p) := by
  have e1 := Decidable.not_not.1 h1; have e2 := Decidable.not_not.1 h2; have e3 := Decidable.not_not.1 h3
  have e : worthE t p = sumE (partsA t p) := by unfold worthE; rw [if_pos h, if_pos e1, if_pos e2, if_pos e3]
  refine ⟨by rw [faces_zero e3, paid_yes e1]; rfl, ?_, e⟩
  unfold worthV
  rw [e]
  unfold sumE sumA
  split <;> simp_all
theorem tokensV_fits {t : Tm} {p : Pf} (hg : t.Fit) : fits .u64 (tokensV t p) := by
  have hu := hg.unit.1
  unfold tokensV
  split
  · exact ⟨by decide, by decide⟩
  · split
    · exact valV_fits hu
    · exact ⟨by decide, by decide⟩
theorem parts_fit {t : Tm} {p : Pf} (hg : t.Fit) (hf : p.Fit) : ∀ n ∈ partsA t p, fits .u64 n := by
  intro n hn
  unfold partsA at hn
  rcases List.mem_append.1 hn with h | h
  · obtain ⟨x, hx, rfl⟩ := List.mem_map.1 h
    exact (hf.wins x hx).t.face
  · rcases List.mem_cons.1 h with rfl | h
    · exact hf.amount
    · rw [List.mem_singleton.1 h]; exact tokensV_fits hg
theorem Ints.of_row {w : World} {ad : Option Addr} {n c T : Nat} {k : IntKind} {xs : List Int} (hn : n = xs.length) (h : HA.ok w (.row ad n c T 1 (xs.map (Value.int k)))) : Ints w ad k xs := by
  intro i hi
  obtain ⟨b, rfl⟩ := row_some h (by omega)
  exact ⟨b, 0, rfl, by rw [Nat.zero_add]; exact row_cell h (by rw [List.getElem?_map, List.getElem?_eq_getElem hi]; rfl)⟩
theorem sum_take {l : List Int} {i : Nat} (h : i < l.length) : (l.take (i + 1)).sum = (l.take i).sum + l[i] := by
  rw [List.take_succ_eq_append_getElem h, List.sum_append]
  simp
theorem sum_part {l : List Int} (h : ∀ n ∈ l, fits .u64 n) (i : Nat) : 0 ≤ (l.take i).sum ∧ (l.take i).sum ≤ l.sum := by
  have h1 := sum_nonneg (l := l.take i) fun n hn => (h n (List.mem_of_mem_take hn)).1
  have h2 := sum_nonneg (l := l.drop i) fun n hn => (h n (List.mem_of_mem_drop hn)).1
  have h3 : l.sum = (l.take i).sum + (l.drop i).sum := by rw [← List.sum_append, List.take_append_drop]
  omega

theorem signed_any (cl : ByteArray) (t : Tk) (w : World) (hf : t.Fit) (hc : t.chan.size ≤ 40000) (hm : t.commit.size ≤ 40000) (hs : t.sig.size ≤ 1000000) :
  Calls Tryz.prog 57 #[.string cl, .agg (Tk.c t).toArray] w fun e w' => e = .returned (.bool (signedB cl t)) ∧ Ch [] w w' := by
 have hts := tkText_small t
 refine calls_of (n := 17) (E := [(0, .string cl), (1, .agg (Tk.c t).toArray)]) (W := Hp w [] []) Tryz.func57 rfl rfl (Nat.le_of_ble_eq_true rfl) rfl (Hp.nil _ _) ?_; refine jsr ?_; refine jl_m rfl (by decide) rfl (m_box rfl rfl) (fun b3 => ?_); refine jz ?_; refine jnt ?_; refine jsr ?_; refine jz ?_; refine jpc (goes_func rfl) (fun w1 hw1 => text_any t w1 hf (by omega) (by omega)) ?_; refine jz ?_; refine jnt ?_; refine jsr ?_; refine jz ?_; refine jy (y_sneq rfl rfl) ?_; refine jl_bool (fun h9 => ?_) (fun h9 => ?_)
 ·skip
  (iterate 5 refine jz ?_); refine jpc (goes_func rfl) (fun w1 hw1 => verifyK_any _ _ _ w1 (by omega) (by omega)) ?_; refine jy (y_pick_true rfl rfl) ?_; refine jz ?_; refine jnt ?_; refine jc_ret ?_; refine jq_ret1 rfl rfl ?_; exact fun _ hw => ⟨congrArg (fun b => Ending.returned (Value.bool b)) (by unfold signedB; simp_all), hw.ch⟩
 ·skip
  refine jz ?_; (iterate 5 refine jsk ?_); refine jy (y_pick_false rfl rfl) ?_; refine jz ?_; refine jnt ?_; refine jc_ret ?_; refine jq_ret1 rfl rfl ?_; exact fun _ hw => ⟨congrArg (fun b => Ending.returned (Value.bool b)) (by unfold signedB; simp_all), hw.ch⟩

theorem won_any (cl : ByteArray) (x : Wn) (w : World) (hf : x.Fit) (hs : x.salt.size ≤ 1000000) :
  Calls Tryz.prog 43 #[.string cl, .agg (Wn.c x).toArray] w fun e w' => e = .returned (.tuple #[.int .u64 (wonV cl x), .int .i64 (wonE cl x)]) ∧ Ch [] w w' := by
 refine calls_of (n := 54) (E := [(0, .string cl), (1, .agg (Wn.c x).toArray)]) (W := Hp w [] []) Tryz.func43 rfl rfl (Nat.le_of_ble_eq_true rfl) rfl (Hp.nil _ _) ?_; refine jsr ?_; refine jl_m rfl (by decide) rfl (m_box rfl rfl) (fun b3 => ?_); (iterate 2 refine jz ?_); refine jnt ?_; refine jsr ?_; (iterate 11 refine jz ?_); refine jpc (goes_func rfl) (fun w1 hw1 => wins_any x.drawn x.t.client x.t.wins x.t.many w1 hf.drawn hf.t.client hf.t.wins hf.t.many) ?_; (iterate 2 refine jz ?_); refine jl_bool (fun h21 => ?_) (fun h21 => ?_)
 ·skip
  (iterate 3 refine jz ?_); refine jnt ?_; refine jc_seq ?_; refine jc_block ?_; refine jsr ?_; (iterate 2 refine jz ?_); refine jpc (goes_func rfl) (fun w1 hw1 => may_any x.t w1) ?_; refine jl_bool (fun h26 => ?_) (fun h26 => ?_)
  ·skip
   (iterate 3 refine jz ?_); refine jy (y_neq rfl rfl) ?_; refine jl_prop (fun h30 => ?_) (fun h30 => ?_)
   ·first | (exfalso; omega) | (refine jy (y_pick_false rfl rfl) ?_; refine jz ?_; refine jnt ?_; refine jc_true rfl ?_; refine jsr ?_; (iterate 2 refine jz ?_); refine jnt ?_; refine jc_ret ?_; refine jq_block_ret ?_; refine jq_then_ret ?_; refine jq_ret2 rfl rfl rfl ?_; exact fun _ hw => ⟨by have f := won_arg (cl := cl) (x := x) (fun h => by first | omega | simp_all); rw [f.1, f.2] <;> rfl, hw.ch⟩)
   ·first | (exfalso; omega) | (
     refine jy (y_pick_false rfl rfl) ?_; refine jz ?_; refine jnt ?_; refine jc_false rfl ?_; refine jc_seq ?_
     have hmy := tkMay_iff.1 (show tkMay x.t = true by assumption)
     refine jc_region ?_; (iterate 3 refine jz ?_); refine jpc (goes_func rfl) (fun w1 hw1 => signed_any cl x.t w1 hf.t (by omega) (by omega) (by omega)) ?_; refine jl_bool (fun h36 => ?_) (fun h36 => ?_)
     ·skip
      skip
      (iterate 2 refine jz ?_); refine jnt ?_; refine jc_false rfl ?_; refine jsr ?_; (iterate 7 refine jz ?_); refine jpc (goes_func rfl) (fun w1 hw1 => opens_any x.t.commit x.salt x.drawn w1 hs hf.drawn) ?_; refine jl_bool (fun h46 => ?_) (fun h46 => ?_)
      ·skip
       (iterate 2 refine jz ?_); refine jnt ?_; refine jc_false rfl ?_; refine jsr ?_; (iterate 3 refine jz ?_); refine jnt ?_; refine jc_false rfl ?_; refine jc_skip ?_; refine jq_block ?_; refine jq_then ?_; refine jsr ?_; (iterate 5 refine jz ?_); refine jnt ?_; refine jc_ret ?_; refine jq_ret2 rfl rfl rfl ?_; exact fun _ hw => ⟨by have f := won_ok (cl := cl) (x := x) ⟨by assumption, by omega⟩ (by assumption) (by assumption) (by simp_all); rw [f.1, f.2] <;> rfl, hw.ch⟩
      ·skip
       (iterate 2 refine jz ?_); refine jnt ?_; refine jc_true rfl ?_; refine jsr ?_; (iterate 2 refine jz ?_); refine jnt ?_; refine jc_ret ?_; refine jq_block_ret ?_; refine jq_then_ret ?_; refine jq_ret2 rfl rfl rfl ?_; exact fun _ hw => ⟨by have f := won_form (cl := cl) (x := x) ⟨by assumption, by omega⟩ (by assumption) (by assumption); rw [f.1, f.2] <;> rfl, hw.ch⟩
     ·skip
      (iterate 2 refine jz ?_); refine jnt ?_; refine jc_true rfl ?_; refine jsr ?_; (iterate 2 refine jz ?_); refine jnt ?_; refine jc_ret ?_; refine jq_block_ret ?_; refine jq_then_ret ?_; refine jq_ret2 rfl rfl rfl ?_; exact fun _ hw => ⟨by have f := won_sig (cl := cl) (x := x) ⟨by assumption, by omega⟩ (by assumption); rw [f.1, f.2] <;> rfl, hw.ch⟩
     )
  ·skip
   (iterate 2 refine jz ?_); (iterate 2 refine jsk ?_); refine jy (y_pick_true rfl rfl) ?_; refine jz ?_; refine jnt ?_; refine jc_true rfl ?_; refine jsr ?_; (iterate 2 refine jz ?_); refine jnt ?_; refine jc_ret ?_; refine jq_block_ret ?_; refine jq_then_ret ?_; refine jq_ret2 rfl rfl rfl ?_; exact fun _ hw => ⟨by have f := won_arg (cl := cl) (x := x) (fun h => by first | omega | simp_all); rw [f.1, f.2] <;> rfl, hw.ch⟩
 ·skip
  (iterate 3 refine jz ?_); refine jnt ?_; refine jc_seq ?_; refine jc_block ?_; refine jsr ?_; (iterate 2 refine jz ?_); refine jpc (goes_func rfl) (fun w1 hw1 => may_any x.t w1) ?_; refine jl_bool (fun h26 => ?_) (fun h26 => ?_)
  ·skip
   (iterate 3 refine jz ?_); refine jy (y_neq rfl rfl) ?_; refine jl_prop (fun h30 => ?_) (fun h30 => ?_)
   ·first | (exfalso; omega) | (refine jy (y_pick_false rfl rfl) ?_; refine jz ?_; refine jnt ?_; refine jc_true rfl ?_; refine jsr ?_; (iterate 2 refine jz ?_); refine jnt ?_; refine jc_ret ?_; refine jq_block_ret ?_; refine jq_then_ret ?_; refine jq_ret2 rfl rfl rfl ?_; exact fun _ hw => ⟨by have f := won_arg (cl := cl) (x := x) (fun h => by first | omega | simp_all); rw [f.1, f.2] <;> rfl, hw.ch⟩)
   ·first | (exfalso; omega) | (
     refine jy (y_pick_false rfl rfl) ?_; refine jz ?_; refine jnt ?_; refine jc_false rfl ?_; refine jc_seq ?_
     have hmy := tkMay_iff.1 (show tkMay x.t = true by assumption)
     refine jc_region ?_; (iterate 3 refine jz ?_); refine jpc (goes_func rfl) (fun w1 hw1 => signed_any cl x.t w1 hf.t (by omega) (by omega) (by omega)) ?_; refine jl_bool (fun h36 => ?_) (fun h36 => ?_)
     ·skip
      skip
      (iterate 2 refine jz ?_); refine jnt ?_; refine jc_false rfl ?_; refine jsr ?_; (iterate 7 refine jz ?_); refine jpc (goes_func rfl) (fun w1 hw1 => opens_any x.t.commit x.salt x.drawn w1 hs hf.drawn) ?_; refine jl_bool (fun h46 => ?_) (fun h46 => ?_)
      ·skip
       (iterate 2 refine jz ?_); refine jnt ?_; refine jc_false rfl ?_; refine jsr ?_; (iterate 3 refine jz ?_); refine jnt ?_; refine jc_true rfl ?_; refine jsr ?_; (iterate 2 refine jz ?_); refine jnt ?_; refine jc_ret ?_; refine jq_block_ret ?_; refine jq_then_ret ?_; refine jq_ret2 rfl rfl rfl ?_; exact fun _ hw => ⟨by have f := won_rule (cl := cl) (x := x) ⟨by assumption, by omega⟩ (by assumption) (by assumption) (by simp_all); rw [f.1, f.2] <;> rfl, hw.ch⟩
      ·skip
       (iterate 2 refine jz ?_); refine jnt ?_; refine jc_true rfl ?_; refine jsr ?_; (iterate 2 refine jz ?_); refine jnt ?_; refine jc_ret ?_; refine jq_block_ret ?_; refine jq_then_ret ?_; refine jq_ret2 rfl rfl rfl ?_; exact fun _ hw => ⟨by have f := won_form (cl := cl) (x := x) ⟨by assumption, by omega⟩ (by assumption) (by assumption); rw [f.1, f.2] <;> rfl, hw.ch⟩
     ·skip
      (iterate 2 refine jz ?_); refine jnt ?_; refine jc_true rfl ?_; refine jsr ?_; (iterate 2 refine jz ?_); refine jnt ?_; refine jc_ret ?_; refine jq_block_ret ?_; refine jq_then_ret ?_; refine jq_ret2 rfl rfl rfl ?_; exact fun _ hw => ⟨by have f := won_sig (cl := cl) (x := x) ⟨by assumption, by omega⟩ (by assumption); rw [f.1, f.2] <;> rfl, hw.ch⟩
     )
  ·skip
   (iterate 2 refine jz ?_); (iterate 2 refine jsk ?_); refine jy (y_pick_true rfl rfl) ?_; refine jz ?_; refine jnt ?_; refine jc_true rfl ?_; refine jsr ?_; (iterate 2 refine jz ?_); refine jnt ?_; refine jc_ret ?_; refine jq_block_ret ?_; refine jq_then_ret ?_; refine jq_ret2 rfl rfl rfl ?_; exact fun _ hw => ⟨by have f := won_arg (cl := cl) (x := x) (fun h => by first | omega | simp_all); rw [f.1, f.2] <;> rfl, hw.ch⟩

end Go.Proofs.YtghomncegjamfaaGreat
