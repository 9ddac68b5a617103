/- The walks of package note, part three: signed tickets, what was won, what a proof is worth. Written by program (walk.py) out of a table of contracts and invariants. -/
import Derived.Test.YtddpoigfliaklaaNo
import Derived.Test.YtddpoigfliaklaaMk2
import Derived.Test.YtddpoigfliaklaaPy
import Derived.Test.YtddpoigfliaklaaDr
import Derived.Test.YtddpoigfliaklaaMwor
namespace Go.Proofs.Ytddpoigfliaklaa
open Go.RowKit
set_option maxRecDepth 100000
set_option maxHeartbeats 2000000
set_option linter.unusedVariables false
set_option linter.unusedSimpArgs false
structure Tm.Fit (t : Tm) : Prop where
  unit : fits .u64 t.unit
  tokens : fits .i64 t.tokens
instance : TMapB Try.prog 110 23 := ⟨4, Try.underlying110, fun w => by kernel_rfl⟩
instance : KeyEq Try.prog 23 (Value.int .u64) := ⟨fun a b w => equalIn_int (9999) a b w, ⟨_, Try.underlying23, .inr fun a b => rfl⟩, fun e a w => by cases e <;> kernel_rfl⟩
theorem tkText_small (t : Tk) : (tkText t).size ≤ 10000 := by
  refine Nat.le_trans (wText_size _) ?_
  refine wle0 ?_
  apply wle_num; apply wle_blob; apply wle_num; apply wle_num; apply wle_num; apply wle_num; apply wle_blob; apply wle_byte
  decide
theorem vouch_small (c : ByteArray) (n : Int) : (vouch c n).size ≤ 10000 := by
  refine Nat.le_trans (wText_size _) ?_
  refine wle0 ?_
  apply wle_num; apply wle_blob; apply wle_byte
  decide
theorem won_arg {cl : ByteArray} {x : Wn} (h : ¬ (tkMay x.t = true ∧ winsE x.drawn x.t.wins x.t.many = 0)) : wonV cl x = 0 ∧ wonE cl x = 1 := by
  have e : wonE cl x = 1 := by unfold wonE; rw [if_neg h]
  exact ⟨by unfold wonV; rw [e]; rfl, e⟩
theorem won_sig {cl : ByteArray} {x : Wn} (h : tkMay x.t = true ∧ winsE x.drawn x.t.wins x.t.many = 0) (h2 : signedB cl x.t = false) : wonV cl x = 0 ∧ wonE cl x = 10 := by
  have e : wonE cl x = 10 := by unfold wonE; rw [if_pos h, if_neg (by rw [h2]; decide)]
  exact ⟨by unfold wonV; rw [e]; rfl, e⟩
theorem won_form {cl : ByteArray} {x : Wn} (h : tkMay x.t = true ∧ winsE x.drawn x.t.wins x.t.many = 0) (h2 : signedB cl x.t = true) (h3 : decide (x.t.commit = commitS x.salt x.drawn) = false) : wonV cl x = 0 ∧ wonE cl x = 4 := by
  have e : wonE cl x = 4 := by unfold wonE; rw [if_pos h, if_pos h2, if_neg (of_decide_eq_false h3)]
  exact ⟨by unfold wonV; rw [e]; rfl, e⟩
theorem won_rule {cl : ByteArray} {x : Wn} (h : tkMay x.t = true ∧ winsE x.drawn x.t.wins x.t.many = 0) (h2 : signedB cl x.t = true) (h3 : decide (x.t.commit = commitS x.salt x.drawn) = true) (h4 : winsB x.drawn x.t.client x.t.wins x.t.many = false) : wonV cl x = 0 ∧ wonE cl x = 13 := by
  have e : wonE cl x = 13 := by unfold wonE; rw [if_pos h, if_pos h2, if_pos (of_decide_eq_true h3), if_neg (by rw [h4]; decide)]
  exact ⟨by unfold wonV; rw [e]; rfl, e⟩
theorem won_ok {cl : ByteArray} {x : Wn} (h : tkMay x.t = true ∧ winsE x.drawn x.t.wins x.t.many = 0) (h2 : signedB cl x.t = true) (h3 : decide (x.t.commit = commitS x.salt x.drawn) = true) (h4 : winsB x.drawn x.t.client x.t.wins x.t.many = true) : wonV cl x = x.t.face ∧ wonE cl x = 0 := by
  have e : wonE cl x = 0 := by unfold wonE; rw [if_pos h, if_pos h2, if_pos (of_decide_eq_true h3), if_pos h4]
  exact ⟨by unfold wonV; rw [e]; rfl, e⟩
theorem paid_no {t : Tm} {p : Pf} (h : paidE t p ≠ 0) : paidV t p = 0 ∧ paidE t p = 10 := by
  refine ⟨by unfold paidV; rw [if_neg h], ?_⟩
  unfold paidE at *
  by_cases h1 : 0 < p.amount
  · rw [if_pos h1] at h ⊢
    split at h
    · exact absurd rfl h
    · rename_i h2; rw [if_neg h2]
  · rw [if_neg h1] at h ⊢
    split at h
    · exact absurd rfl h
    · rename_i h2; rw [if_neg h2]
theorem paid_yes {t : Tm} {p : Pf} (h : paidE t p = 0) : paidV t p = p.amount := by unfold paidV; rw [if_pos h]
theorem tok_none {t : Tm} {p : Pf} (h : p.token = ⟨#[]⟩) : tokensV t p = 0 ∧ tokensE t p = 0 := by unfold tokensV tokensE; rw [if_pos h, if_pos h]; exact ⟨rfl, rfl⟩
theorem tok_bad {t : Tm} {p : Pf} (h : ¬ p.token = ⟨#[]⟩) (h2 : cntE t.anchor p.token t.tokens ≠ 0) : tokensV t p = 0 ∧ tokensE t p = cntE t.anchor p.token t.tokens := by unfold tokensV tokensE; rw [if_neg h, if_neg h, if_neg h2, if_neg h2]; exact ⟨rfl, rfl⟩
theorem tok_good {t : Tm} {p : Pf} (h : ¬ p.token = ⟨#[]⟩) (h2 : cntE t.anchor p.token t.tokens = 0) : tokensV t p = valV (cntV t.anchor p.token t.tokens) t.unit ∧ tokensE t p = valE (cntV t.anchor p.token t.tokens) t.unit := by unfold tokensV tokensE; rw [if_neg h, if_neg h, if_pos h2, if_pos h2]; exact ⟨rfl, rfl⟩
theorem face_step {t : Tm} {l : List Wn} {i : Nat} (hi : i < l.length) (h : facesE t [] l = facesE t ((l.take i).map (·.t.serial)) (l.drop i)) :
    (faceE1 t ((l.take i).map (·.t.serial)) l[i] ≠ 0 → facesE t [] l = faceE1 t ((l.take i).map (·.t.serial)) l[i]) ∧ (faceE1 t ((l.take i).map (·.t.serial)) l[i] = 0 → facesE t [] l = facesE t ((l.take (i + 1)).map (·.t.serial)) (l.drop (i + 1))) := by
  rw [List.drop_eq_getElem_cons hi] at h
  have h2 : ∀ (s : List Int) (x : Wn) (r : List Wn), facesE t s (x :: r) = if faceE1 t s x = 0 then facesE t (s ++ [x.t.serial]) r else faceE1 t s x := fun s x r => rfl
  rw [h2] at h
  refine ⟨fun h1 => by rw [h, if_neg h1], fun h1 => by rw [h, if_pos h1, List.take_succ_eq_append_getElem hi, List.map_append]; rfl⟩
theorem face_no {t : Tm} {l : List Wn} {n : Int} (hn : n ≠ 0) (h : facesE t [] l = n) : facesV t l = [] ∧ facesE t [] l = n := ⟨by unfold facesV; rw [h, if_neg hn], h⟩
theorem face_yes {t : Tm} {l : List Wn} (h : facesE t [] l = facesE t ((l.take l.length).map (·.t.serial)) (l.drop l.length)) : facesV t l = l.map (·.t.face) ∧ facesE t [] l = 0 := by
  rw [List.drop_length] at h
  have h2 : facesE t [] l = 0 := h
  exact ⟨by unfold facesV; rw [if_pos h2], h2⟩
theorem faces_zero {t : Tm} {l : List Wn} (h : facesE t [] l = 0) : facesV t l = l.map (·.t.face) := by unfold facesV; rw [if_pos h]
theorem face_take {l : List Wn} {i : Nat} (h : i < l.length) : (l.take (i + 1)).map (·.t.face) = (l.take i).map (·.t.face) ++ [l[i].t.face] := by
  rw [List.take_succ_eq_append_getElem h, List.map_append]; rfl
theorem ser_take {l : List Wn} {i : Nat} (h : i < l.length) : (l.take (i + 1)).map (·.t.serial) = (l.take i).map (·.t.serial) ++ [l[i].t.serial] := by
  rw [List.take_succ_eq_append_getElem h, List.map_append]; rfl
theorem worth_no {t : Tm} {p : Pf} {n : Int} (hn : n ≠ 0) (h : worthE t p = n) : worthV t p = 0 ∧ worthE t p = n := ⟨by unfold worthV; rw [h, if_neg hn], h⟩
theorem worth_right {t : Tm} {p : Pf} (h : pfRight p = false) : worthV t p = 0 ∧ worthE t p = 1 := worth_no (by decide) (by unfold worthE; rw [if_neg (by rw [h]; decide)])
theorem worth_paid {t : Tm} {p : Pf} (h : pfRight p = true) (h1 : paidE t p ≠ 0) : worthV t p = 0 ∧ worthE t p = paidE t p := worth_no h1 (by unfold worthE; rw [if_pos h, if_neg h1])
theorem worth_tok {t : Tm} {p : Pf} (h : pfRight p = true) (h1 : ¬ paidE t p ≠ 0) (h2 : tokensE t p ≠ 0) : worthV t p = 0 ∧ worthE t p = tokensE t p := worth_no h2 (by unfold worthE; rw [if_pos h, if_pos (Decidable.not_not.1 h1), if_neg h2])
theorem worth_face {t : Tm} {p : Pf} (h : pfRight p = true) (h1 : ¬ paidE t p ≠ 0) (h2 : ¬ tokensE t p ≠ 0) (h3 : facesE t [] p.wins ≠ 0) : worthV t p = 0 ∧ worthE t p = facesE t [] p.wins := worth_no h3 (by unfold worthE; rw [if_pos h, if_pos (Decidable.not_not.1 h1), if_pos (Decidable.not_not.1 h2), if_neg h3])
theorem worth_all {t : Tm} {p : Pf} (h : pfRight p = true) (h1 : ¬ paidE t p ≠ 0) (h2 : ¬ tokensE t p ≠ 0) (h3 : ¬ facesE t [] p.wins ≠ 0) : facesV t p.wins ++ [paidV t p, tokensV t p] = partsA t p ∧ worthV t p = sumA (partsA t p) ∧ worthE t p = sumE (partsA t p) := by
  have e1 := Decidable.not_not.1 h1; have e2 := Decidable.not_not.1 h2; have e3 := Decidable.not_not.1 h3
  have e : worthE t p = sumE (partsA t p) := by unfold worthE; rw [if_pos h, if_pos e1, if_pos e2, if_pos e3]
  refine ⟨by rw [faces_zero e3, paid_yes e1]; rfl, ?_, e⟩
  unfold worthV
  rw [e]
  unfold sumE sumA
  split <;> simp_all
theorem tokensV_fits {t : Tm} {p : Pf} (hg : t.Fit) : fits .u64 (tokensV t p) := by
  have hu := hg.unit.1
  unfold tokensV
  split
  · exact ⟨by decide, by decide⟩
  · split
    · exact valV_fits hu
    · exact ⟨by decide, by decide⟩
theorem parts_fit {t : Tm} {p : Pf} (hg : t.Fit) (hf : p.Fit) : ∀ n ∈ partsA t p, fits .u64 n := by
  intro n hn
  unfold partsA at hn
  rcases List.mem_append.1 hn with h | h
  · obtain ⟨x, hx, rfl⟩ := List.mem_map.1 h
    exact (hf.wins x hx).t.face
  · rcases List.mem_cons.1 h with rfl | h
    · exact hf.amount
    · rw [List.mem_singleton.1 h]; exact tokensV_fits hg
theorem Ints.of_row {w : World} {ad : Option Addr} {n c T : Nat} {k : IntKind} {xs : List Int} (hn : n = xs.length) (h : HA.ok w (.row ad n c T 1 (xs.map (Value.int k)))) : Ints w ad k xs := by
  intro i hi
  obtain ⟨b, rfl⟩ := row_some h (by omega)
  exact ⟨b, 0, rfl, by rw [Nat.zero_add]; exact row_cell h (by rw [List.getElem?_map, List.getElem?_eq_getElem hi]; rfl)⟩
theorem sum_take {l : List Int} {i : Nat} (h : i < l.length) : (l.take (i + 1)).sum = (l.take i).sum + l[i] := by
  rw [List.take_succ_eq_append_getElem h, List.sum_append]
  simp
theorem sum_part {l : List Int} (h : ∀ n ∈ l, fits .u64 n) (i : Nat) : 0 ≤ (l.take i).sum ∧ (l.take i).sum ≤ l.sum := by
  have h1 := sum_nonneg (l := l.take i) fun n hn => (h n (List.mem_of_mem_take hn)).1
  have h2 := sum_nonneg (l := l.drop i) fun n hn => (h n (List.mem_of_mem_drop hn)).1
  have h3 : l.sum = (l.take i).sum + (l.drop i).sum := by rw [← List.sum_append, List.take_append_drop]
  omega

theorem nsum_any (ad : Option Addr) (c : Nat) (l : List Int) (w : World) (hf : ∀ n ∈ l, fits .u64 n) (hl : l.length ≤ 1000000000) (hL : Ints w ad .u64 l) :
  Calls Try.prog 43 #[.slice ad l.length c] w fun e w' => e = .returned (.tuple #[.int .u64 (sumA l), .int .i64 (sumE l)]) ∧ Ch [] w w' := by
 refine calls_of (n := 25) (E := [(0, .slice ad l.length c)]) (W := Hp w [] []) Try.func43 rfl rfl (Nat.le_of_ble_eq_true rfl) rfl (Hp.nil _ _) ?_
 refine jsr ?_
 refine jz ?_
 refine jz ?_
 refine jnt ?_
 refine jsr ?_
 refine jz ?_
 refine jnt ?_
 refine jc_seq ?_
 refine jsr ?_
 refine jz ?_
 refine jy (y_len_slice rfl) ?_
 refine jz ?_
 refine jnt ?_
 refine jc_block ?_
 refine jc_loop (fun (i : Nat) => [(4, .int .u64 (l.take i).sum), (8, .slice ad l.length c), (9, .int .i64 l.length), (10, .int .i64 (i : Nat))]) (fun (i : Nat) => fun w' => (i ≤ l.length ∧ (l.take i).sum < 18446744073709551616) ∧ Hp w [] [] w') (fun (i : Nat) => l.length - i) 0 ?_ ?_ ?_
 ·exact ⟨rfl, rfl, rfl, rfl, trivial⟩
 ·exact fun _ h => ⟨⟨by omega, by simp⟩, h⟩
 ·intro i
  refine jc_and (fun hi => ?_)
  refine jsr ?_
  refine jy (y_lss rfl rfl) ?_
  refine jl_prop (fun h11 => ?_) (fun h11 => ?_)
  ·first
   | (exfalso; omega)
   | (
    have hlt : i < l.length := by omega
    obtain ⟨bb, oo, ea, hc⟩ := hL i hlt
    subst ea
    have hfn := hf _ (List.getElem_mem hlt)
    have hst := sum_take hlt
    have hpp := sum_part hf (i + 1)
    have hp0 := sum_part hf i
    generalize hxe : l[i]'hlt = n at *
    refine jnt ?_
    refine jc_seq ?_
    refine jc_true rfl ?_
    refine jc_skip ?_
    refine jq_then ?_
    refine jc_seq ?_
    refine jc_block ?_
    refine jsr ?_
    refine jy (y_indexAddr_slice (off := oo + i) rfl rfl (by omega) (by omega) (by omega)) ?_
    refine jy (y_load_old rfl hc (by simp)) ?_
    refine jz ?_
    refine jnt ?_
    refine jsr ?_
    refine jz ?_
    refine jnt ?_
    refine jsr ?_
    refine jz ?_
    refine jz ?_
    refine jpc (goes_func rfl) (fun w1 hw1 => add_any (l.take i).sum n w1 (by simp only [fits] at *; omega) hfn) ?_
    refine jz ?_
    refine jz ?_
    refine jl_as (u := .int .u64 (addV (l.take i).sum n)) rfl ?_
    refine jz ?_
    refine jz ?_
    refine jz ?_
    refine jnt ?_
    refine jsr ?_
    refine jz ?_
    refine jy (y_neq rfl rfl) ?_
    refine jl_prop (fun h21 => ?_) (fun h21 => ?_)
    ·first
     | (exfalso; omega)
     | (
      refine jnt ?_
      refine jc_true rfl ?_
      refine jsr ?_
      refine jz ?_
      refine jz ?_
      refine jz ?_
      refine jnt ?_
      refine jc_ret ?_
      refine jq_block_ret ?_
      refine jq_then_ret ?_
      refine jq_then_ret ?_
      refine jq_block_ret ?_
      refine jq_then_ret ?_
      refine jq_ret2 rfl rfl rfl ?_
      exact fun _ hw => ⟨by have : 18446744073709551616 ≤ l.sum := (by unfold addE at *; split at * <;> omega); unfold sumA sumE; rw [if_pos this, if_pos this]; have h2 : addE (l.take i).sum n = 2 := (by unfold addE at *; split at * <;> omega); rw [h2]; rfl, hw.ch⟩
      )
    ·first
     | (exfalso; omega)
     | (
      refine jnt ?_
      refine jc_false rfl ?_
      refine jc_skip ?_
      refine jq_block ?_
      refine jq_then ?_
      refine jc_region ?_
      refine jy (y_add_fits rfl rfl (by simp only [fits]; omega)) ?_
      refine jz ?_
      refine jl_nil ?_
      refine jq_round (i := i) (i + 1) ?_ ?_ ?_
      ·omega
      ·exact ⟨lk_int rfl (by unfold addV addE at *; split at * <;> omega), rfl, rfl, lk_int rfl (by omega), trivial⟩
      ·exact fun _ h => ⟨⟨by omega, by unfold addE at *; split at * <;> omega⟩, h⟩
      )
    )
  ·first
   | (exfalso; omega)
   | (
    refine jnt ?_
    refine jc_seq ?_
    refine jc_false rfl ?_
    refine jc_exit ?_
    refine jq_then_exit ?_
    refine jq_then_exit ?_
    refine jq_hit ?_
    refine jq_then ?_
    refine jsr ?_
    refine jz ?_
    refine jz ?_
    refine jz ?_
    refine jnt ?_
    refine jc_ret ?_
    refine jq_ret2 rfl rfl rfl ?_
    exact fun _ hw => ⟨by have h1 := hi.2; rw [List.take_of_length_le (by omega)] at h1 ⊢; unfold sumA sumE; rw [if_neg (by omega), if_neg (by omega)], hw.ch⟩
    )

theorem signed_any (cl : ByteArray) (t : Tk) (w : World) (hf : t.Fit) (hc : t.chan.size ≤ 40000) (hm : t.commit.size ≤ 40000) (hs : t.sig.size ≤ 1000000) :
  Calls Try.prog 35 #[.string cl, .agg (Tk.c t).toArray] w fun e w' => e = .returned (.bool (signedB cl t)) ∧ Ch [] w w' := by
 have hts := tkText_small t
 refine calls_of (n := 17) (E := [(0, .string cl), (1, .agg (Tk.c t).toArray)]) (W := Hp w [] []) Try.func35 rfl rfl (Nat.le_of_ble_eq_true rfl) rfl (Hp.nil _ _) ?_
 refine jsr ?_
 refine jl_m rfl (by decide) rfl (m_box rfl rfl) (fun b3 => ?_)
 refine jz ?_
 refine jnt ?_
 refine jsr ?_
 refine jz ?_
 refine jpc (goes_func rfl) (fun w1 hw1 => text_any t w1 hf (by omega) (by omega)) ?_
 refine jz ?_
 refine jnt ?_
 refine jsr ?_
 refine jz ?_
 refine jy (y_sneq rfl rfl) ?_
 refine jl_bool (fun h9 => ?_) (fun h9 => ?_)
 ·skip
  refine jz ?_
  refine jz ?_
  refine jz ?_
  refine jz ?_
  refine jz ?_
  refine jpc (goes_func rfl) (fun w1 hw1 => verifyK_any _ _ _ w1 (by omega) (by omega)) ?_
  refine jy (y_pick_true rfl rfl) ?_
  refine jz ?_
  refine jnt ?_
  refine jc_ret ?_
  refine jq_ret1 rfl rfl ?_
  exact fun _ hw => ⟨congrArg (fun b => Ending.returned (Value.bool b)) (by unfold signedB; simp_all), hw.ch⟩
 ·skip
  refine jz ?_
  refine jsk ?_
  refine jsk ?_
  refine jsk ?_
  refine jsk ?_
  refine jsk ?_
  refine jy (y_pick_false rfl rfl) ?_
  refine jz ?_
  refine jnt ?_
  refine jc_ret ?_
  refine jq_ret1 rfl rfl ?_
  exact fun _ hw => ⟨congrArg (fun b => Ending.returned (Value.bool b)) (by unfold signedB; simp_all), hw.ch⟩

theorem won_any (cl : ByteArray) (x : Wn) (w : World) (hf : x.Fit) (hs : x.salt.size ≤ 1000000) :
  Calls Try.prog 13 #[.string cl, .agg (Wn.c x).toArray] w fun e w' => e = .returned (.tuple #[.int .u64 (wonV cl x), .int .i64 (wonE cl x)]) ∧ Ch [] w w' := by
 refine calls_of (n := 54) (E := [(0, .string cl), (1, .agg (Wn.c x).toArray)]) (W := Hp w [] []) Try.func13 rfl rfl (Nat.le_of_ble_eq_true rfl) rfl (Hp.nil _ _) ?_
 refine jsr ?_
 refine jl_m rfl (by decide) rfl (m_box rfl rfl) (fun b3 => ?_)
 refine jz ?_
 refine jz ?_
 refine jnt ?_
 refine jsr ?_
 refine jz ?_
 refine jz ?_
 refine jz ?_
 refine jz ?_
 refine jz ?_
 refine jz ?_
 refine jz ?_
 refine jz ?_
 refine jz ?_
 refine jz ?_
 refine jz ?_
 refine jpc (goes_func rfl) (fun w1 hw1 => wins_any x.drawn x.t.client x.t.wins x.t.many w1 hf.drawn hf.t.client hf.t.wins hf.t.many) ?_
 refine jz ?_
 refine jz ?_
 refine jl_bool (fun h21 => ?_) (fun h21 => ?_)
 ·skip
  refine jz ?_
  refine jz ?_
  refine jz ?_
  refine jnt ?_
  refine jc_seq ?_
  refine jc_block ?_
  refine jsr ?_
  refine jz ?_
  refine jz ?_
  refine jpc (goes_func rfl) (fun w1 hw1 => may_any x.t w1) ?_
  refine jl_bool (fun h26 => ?_) (fun h26 => ?_)
  ·skip
   refine jz ?_
   refine jz ?_
   refine jz ?_
   refine jy (y_neq rfl rfl) ?_
   refine jl_prop (fun h30 => ?_) (fun h30 => ?_)
   ·first
    | (exfalso; omega)
    | (
     refine jy (y_pick_false rfl rfl) ?_
     refine jz ?_
     refine jnt ?_
     refine jc_true rfl ?_
     refine jsr ?_
     refine jz ?_
     refine jz ?_
     refine jnt ?_
     refine jc_ret ?_
     refine jq_block_ret ?_
     refine jq_then_ret ?_
     refine jq_ret2 rfl rfl rfl ?_
     exact fun _ hw => ⟨by have f := won_arg (cl := cl) (x := x) (fun h => by first | omega | simp_all); rw [f.1, f.2] <;> rfl, hw.ch⟩
     )
   ·first
    | (exfalso; omega)
    | (
     refine jy (y_pick_false rfl rfl) ?_
     refine jz ?_
     refine jnt ?_
     refine jc_false rfl ?_
     refine jc_seq ?_
     have hmy := tkMay_iff.1 (show tkMay x.t = true by assumption)
     refine jc_region ?_
     refine jz ?_
     refine jz ?_
     refine jz ?_
     refine jpc (goes_func rfl) (fun w1 hw1 => signed_any cl x.t w1 hf.t (by omega) (by omega) (by omega)) ?_
     refine jl_bool (fun h36 => ?_) (fun h36 => ?_)
     ·skip
      skip
      refine jz ?_
      refine jz ?_
      refine jnt ?_
      refine jc_false rfl ?_
      refine jsr ?_
      refine jz ?_
      refine jz ?_
      refine jz ?_
      refine jz ?_
      refine jz ?_
      refine jz ?_
      refine jz ?_
      refine jpc (goes_func rfl) (fun w1 hw1 => opens_any x.t.commit x.salt x.drawn w1 hs hf.drawn) ?_
      refine jl_bool (fun h46 => ?_) (fun h46 => ?_)
      ·skip
       refine jz ?_
       refine jz ?_
       refine jnt ?_
       refine jc_false rfl ?_
       refine jsr ?_
       refine jz ?_
       refine jz ?_
       refine jz ?_
       refine jnt ?_
       refine jc_false rfl ?_
       refine jc_skip ?_
       refine jq_block ?_
       refine jq_then ?_
       refine jsr ?_
       refine jz ?_
       refine jz ?_
       refine jz ?_
       refine jz ?_
       refine jz ?_
       refine jnt ?_
       refine jc_ret ?_
       refine jq_ret2 rfl rfl rfl ?_
       exact fun _ hw => ⟨by have f := won_ok (cl := cl) (x := x) ⟨by assumption, by omega⟩ (by assumption) (by assumption) (by simp_all); rw [f.1, f.2] <;> rfl, hw.ch⟩
      ·skip
       refine jz ?_
       refine jz ?_
       refine jnt ?_
       refine jc_true rfl ?_
       refine jsr ?_
       refine jz ?_
       refine jz ?_
       refine jnt ?_
       refine jc_ret ?_
       refine jq_block_ret ?_
       refine jq_then_ret ?_
       refine jq_ret2 rfl rfl rfl ?_
       exact fun _ hw => ⟨by have f := won_form (cl := cl) (x := x) ⟨by assumption, by omega⟩ (by assumption) (by assumption); rw [f.1, f.2] <;> rfl, hw.ch⟩
     ·skip
      refine jz ?_
      refine jz ?_
      refine jnt ?_
      refine jc_true rfl ?_
      refine jsr ?_
      refine jz ?_
      refine jz ?_
      refine jnt ?_
      refine jc_ret ?_
      refine jq_block_ret ?_
      refine jq_then_ret ?_
      refine jq_ret2 rfl rfl rfl ?_
      exact fun _ hw => ⟨by have f := won_sig (cl := cl) (x := x) ⟨by assumption, by omega⟩ (by assumption); rw [f.1, f.2] <;> rfl, hw.ch⟩
     )
  ·skip
   refine jz ?_
   refine jz ?_
   refine jsk ?_
   refine jsk ?_
   refine jy (y_pick_true rfl rfl) ?_
   refine jz ?_
   refine jnt ?_
   refine jc_true rfl ?_
   refine jsr ?_
   refine jz ?_
   refine jz ?_
   refine jnt ?_
   refine jc_ret ?_
   refine jq_block_ret ?_
   refine jq_then_ret ?_
   refine jq_ret2 rfl rfl rfl ?_
   exact fun _ hw => ⟨by have f := won_arg (cl := cl) (x := x) (fun h => by first | omega | simp_all); rw [f.1, f.2] <;> rfl, hw.ch⟩
 ·skip
  refine jz ?_
  refine jz ?_
  refine jz ?_
  refine jnt ?_
  refine jc_seq ?_
  refine jc_block ?_
  refine jsr ?_
  refine jz ?_
  refine jz ?_
  refine jpc (goes_func rfl) (fun w1 hw1 => may_any x.t w1) ?_
  refine jl_bool (fun h26 => ?_) (fun h26 => ?_)
  ·skip
   refine jz ?_
   refine jz ?_
   refine jz ?_
   refine jy (y_neq rfl rfl) ?_
   refine jl_prop (fun h30 => ?_) (fun h30 => ?_)
   ·first
    | (exfalso; omega)
    | (
     refine jy (y_pick_false rfl rfl) ?_
     refine jz ?_
     refine jnt ?_
     refine jc_true rfl ?_
     refine jsr ?_
     refine jz ?_
     refine jz ?_
     refine jnt ?_
     refine jc_ret ?_
     refine jq_block_ret ?_
     refine jq_then_ret ?_
     refine jq_ret2 rfl rfl rfl ?_
     exact fun _ hw => ⟨by have f := won_arg (cl := cl) (x := x) (fun h => by first | omega | simp_all); rw [f.1, f.2] <;> rfl, hw.ch⟩
     )
   ·first
    | (exfalso; omega)
    | (
     refine jy (y_pick_false rfl rfl) ?_
     refine jz ?_
     refine jnt ?_
     refine jc_false rfl ?_
     refine jc_seq ?_
     have hmy := tkMay_iff.1 (show tkMay x.t = true by assumption)
     refine jc_region ?_
     refine jz ?_
     refine jz ?_
     refine jz ?_
     refine jpc (goes_func rfl) (fun w1 hw1 => signed_any cl x.t w1 hf.t (by omega) (by omega) (by omega)) ?_
     refine jl_bool (fun h36 => ?_) (fun h36 => ?_)
     ·skip
      skip
      refine jz ?_
      refine jz ?_
      refine jnt ?_
      refine jc_false rfl ?_
      refine jsr ?_
      refine jz ?_
      refine jz ?_
      refine jz ?_
      refine jz ?_
      refine jz ?_
      refine jz ?_
      refine jz ?_
      refine jpc (goes_func rfl) (fun w1 hw1 => opens_any x.t.commit x.salt x.drawn w1 hs hf.drawn) ?_
      refine jl_bool (fun h46 => ?_) (fun h46 => ?_)
      ·skip
       refine jz ?_
       refine jz ?_
       refine jnt ?_
       refine jc_false rfl ?_
       refine jsr ?_
       refine jz ?_
       refine jz ?_
       refine jz ?_
       refine jnt ?_
       refine jc_true rfl ?_
       refine jsr ?_
       refine jz ?_
       refine jz ?_
       refine jnt ?_
       refine jc_ret ?_
       refine jq_block_ret ?_
       refine jq_then_ret ?_
       refine jq_ret2 rfl rfl rfl ?_
       exact fun _ hw => ⟨by have f := won_rule (cl := cl) (x := x) ⟨by assumption, by omega⟩ (by assumption) (by assumption) (by simp_all); rw [f.1, f.2] <;> rfl, hw.ch⟩
      ·skip
       refine jz ?_
       refine jz ?_
       refine jnt ?_
       refine jc_true rfl ?_
       refine jsr ?_
       refine jz ?_
       refine jz ?_
       refine jnt ?_
       refine jc_ret ?_
       refine jq_block_ret ?_
       refine jq_then_ret ?_
       refine jq_ret2 rfl rfl rfl ?_
       exact fun _ hw => ⟨by have f := won_form (cl := cl) (x := x) ⟨by assumption, by omega⟩ (by assumption) (by assumption); rw [f.1, f.2] <;> rfl, hw.ch⟩
     ·skip
      refine jz ?_
      refine jz ?_
      refine jnt ?_
      refine jc_true rfl ?_
      refine jsr ?_
      refine jz ?_
      refine jz ?_
      refine jnt ?_
      refine jc_ret ?_
      refine jq_block_ret ?_
      refine jq_then_ret ?_
      refine jq_ret2 rfl rfl rfl ?_
      exact fun _ hw => ⟨by have f := won_sig (cl := cl) (x := x) ⟨by assumption, by omega⟩ (by assumption); rw [f.1, f.2] <;> rfl, hw.ch⟩
     )
  ·skip
   refine jz ?_
   refine jz ?_
   refine jsk ?_
   refine jsk ?_
   refine jy (y_pick_true rfl rfl) ?_
   refine jz ?_
   refine jnt ?_
   refine jc_true rfl ?_
   refine jsr ?_
   refine jz ?_
   refine jz ?_
   refine jnt ?_
   refine jc_ret ?_
   refine jq_block_ret ?_
   refine jq_then_ret ?_
   refine jq_ret2 rfl rfl rfl ?_
   exact fun _ hw => ⟨by have f := won_arg (cl := cl) (x := x) (fun h => by first | omega | simp_all); rw [f.1, f.2] <;> rfl, hw.ch⟩

theorem paid_any (p : Pf) (ad : Option Addr) (c : Nat) (t : Tm) (w : World) (hf : p.Fit) (hc : t.chan.size ≤ 1000000000) (hs : p.sig.size ≤ 1000000) :
  Calls Try.prog 40 #[.agg (Pf.c p ad c).toArray, .agg (Tm.c t).toArray] w fun e w' => e = .returned (.tuple #[.int .u64 (paidV t p), .int .i64 (paidE t p)]) ∧ Ch [] w w' := by
 have hvs := vouch_small t.chan p.amount
 refine calls_of (n := 27) (E := [(0, .agg (Pf.c p ad c).toArray), (1, .agg (Tm.c t).toArray)]) (W := Hp w [] []) Try.func40 rfl rfl (Nat.le_of_ble_eq_true rfl) rfl (Hp.nil _ _) ?_
 refine jsr ?_
 refine jl_m rfl (by decide) rfl (m_box rfl rfl) (fun b2 => ?_)
 refine jl_m rfl (by decide) rfl (m_box rfl rfl) (fun b3 => ?_)
 refine jz ?_
 refine jz ?_
 refine jnt ?_
 refine jsr ?_
 refine jz ?_
 refine jz ?_
 refine jy (y_seql rfl rfl) ?_
 refine jl_prop (fun h9 => ?_) (fun h9 => ?_)
 ·skip
  refine jz ?_
  refine jnt ?_
  refine jc_seq ?_
  refine jsr ?_
  refine jz ?_
  refine jz ?_
  refine jy (y_gtr rfl rfl) ?_
  refine jl_prop (fun h12 => ?_) (fun h12 => ?_)
  ·first
   | (exfalso; omega)
   | (
    have hpe : paidE t p = if verK t.client (vouch t.chan p.amount) p.sig = true then 0 else 10 := by unfold paidE; rw [if_pos (by assumption)]
    refine jnt ?_
    refine jc_true rfl ?_
    refine jc_draw (by kernel_rfl) (fun _ h => h.drew) ?_
    refine juz ?_
    refine juz ?_
    refine juz ?_
    refine juz ?_
    refine juz ?_
    refine juz ?_
    refine ju_call rfl (by decide) rfl (goes_func rfl) (fun w1 hw1 => pcall hw1 (vouch_any t.chan p.amount w1 hc hf.amount)) ?_
    refine juz ?_
    refine juz ?_
    refine ju_call rfl (by decide) rfl (goes_func rfl) (fun w1 hw1 => pcall hw1 (verifyK_any _ _ _ w1 (by omega) (by omega))) ?_
    refine ju_bool (fun h22 => ?_) (fun h22 => ?_)
    ·skip
     refine juz ?_
     refine ju_nil ?_
     refine jq_then ?_
     refine jc_seq ?_
     refine jsr ?_
     refine jz ?_
     refine jz ?_
     refine jnt ?_
     refine jc_false rfl ?_
     refine jc_skip ?_
     refine jq_then ?_
     refine jsr ?_
     refine jz ?_
     refine jz ?_
     refine jz ?_
     refine jz ?_
     refine jnt ?_
     refine jc_ret ?_
     refine jq_ret2 rfl rfl rfl ?_
     exact fun _ hw => ⟨by have f0 : paidE t p = 0 := (by rw [hpe]; simp_all); rw [f0, paid_yes f0] <;> rfl, hw.ch⟩
    ·skip
     refine juz ?_
     refine ju_nil ?_
     refine jq_then ?_
     refine jc_seq ?_
     refine jsr ?_
     refine jz ?_
     refine jz ?_
     refine jnt ?_
     refine jc_true rfl ?_
     refine jsr ?_
     refine jz ?_
     refine jz ?_
     refine jnt ?_
     refine jc_ret ?_
     refine jq_then_ret ?_
     refine jq_ret2 rfl rfl rfl ?_
     exact fun _ hw => ⟨by have f := paid_no (t := t) (p := p) (by rw [hpe]; simp_all); rw [f.1, f.2] <;> rfl, hw.ch⟩
    )
  ·first
   | (exfalso; omega)
   | (
    have hpe : paidE t p = if p.sig = ⟨#[]⟩ then 0 else 10 := by unfold paidE; rw [if_neg (by assumption)]
    refine jnt ?_
    refine jc_false rfl ?_
    refine jc_skip ?_
    refine jq_then ?_
    refine jc_seq ?_
    refine jsr ?_
    refine jz ?_
    refine jz ?_
    refine jnt ?_
    refine jc_false rfl ?_
    refine jc_skip ?_
    refine jq_then ?_
    refine jsr ?_
    refine jz ?_
    refine jz ?_
    refine jz ?_
    refine jz ?_
    refine jnt ?_
    refine jc_ret ?_
    refine jq_ret2 rfl rfl rfl ?_
    exact fun _ hw => ⟨by have f0 : paidE t p = 0 := (by rw [hpe]; simp_all); rw [f0, paid_yes f0] <;> rfl, hw.ch⟩
    )
 ·skip
  refine jz ?_
  refine jnt ?_
  refine jc_seq ?_
  refine jsr ?_
  refine jz ?_
  refine jz ?_
  refine jy (y_gtr rfl rfl) ?_
  refine jl_prop (fun h12 => ?_) (fun h12 => ?_)
  ·first
   | (exfalso; omega)
   | (
    have hpe : paidE t p = if verK t.client (vouch t.chan p.amount) p.sig = true then 0 else 10 := by unfold paidE; rw [if_pos (by assumption)]
    refine jnt ?_
    refine jc_true rfl ?_
    refine jc_draw (by kernel_rfl) (fun _ h => h.drew) ?_
    refine juz ?_
    refine juz ?_
    refine juz ?_
    refine juz ?_
    refine juz ?_
    refine juz ?_
    refine ju_call rfl (by decide) rfl (goes_func rfl) (fun w1 hw1 => pcall hw1 (vouch_any t.chan p.amount w1 hc hf.amount)) ?_
    refine juz ?_
    refine juz ?_
    refine ju_call rfl (by decide) rfl (goes_func rfl) (fun w1 hw1 => pcall hw1 (verifyK_any _ _ _ w1 (by omega) (by omega))) ?_
    refine ju_bool (fun h22 => ?_) (fun h22 => ?_)
    ·skip
     refine juz ?_
     refine ju_nil ?_
     refine jq_then ?_
     refine jc_seq ?_
     refine jsr ?_
     refine jz ?_
     refine jz ?_
     refine jnt ?_
     refine jc_false rfl ?_
     refine jc_skip ?_
     refine jq_then ?_
     refine jsr ?_
     refine jz ?_
     refine jz ?_
     refine jz ?_
     refine jz ?_
     refine jnt ?_
     refine jc_ret ?_
     refine jq_ret2 rfl rfl rfl ?_
     exact fun _ hw => ⟨by have f0 : paidE t p = 0 := (by rw [hpe]; simp_all); rw [f0, paid_yes f0] <;> rfl, hw.ch⟩
    ·skip
     refine juz ?_
     refine ju_nil ?_
     refine jq_then ?_
     refine jc_seq ?_
     refine jsr ?_
     refine jz ?_
     refine jz ?_
     refine jnt ?_
     refine jc_true rfl ?_
     refine jsr ?_
     refine jz ?_
     refine jz ?_
     refine jnt ?_
     refine jc_ret ?_
     refine jq_then_ret ?_
     refine jq_ret2 rfl rfl rfl ?_
     exact fun _ hw => ⟨by have f := paid_no (t := t) (p := p) (by rw [hpe]; simp_all); rw [f.1, f.2] <;> rfl, hw.ch⟩
    )
  ·first
   | (exfalso; omega)
   | (
    have hpe : paidE t p = if p.sig = ⟨#[]⟩ then 0 else 10 := by unfold paidE; rw [if_neg (by assumption)]
    refine jnt ?_
    refine jc_false rfl ?_
    refine jc_skip ?_
    refine jq_then ?_
    refine jc_seq ?_
    refine jsr ?_
    refine jz ?_
    refine jz ?_
    refine jnt ?_
    refine jc_true rfl ?_
    refine jsr ?_
    refine jz ?_
    refine jz ?_
    refine jnt ?_
    refine jc_ret ?_
    refine jq_then_ret ?_
    refine jq_ret2 rfl rfl rfl ?_
    exact fun _ hw => ⟨by have f := paid_no (t := t) (p := p) (by rw [hpe]; simp_all); rw [f.1, f.2] <;> rfl, hw.ch⟩
    )

theorem tokens_any (p : Pf) (ad : Option Addr) (c : Nat) (t : Tm) (w : World) (hf : t.Fit) :
  Calls Try.prog 41 #[.agg (Pf.c p ad c).toArray, .agg (Tm.c t).toArray] w fun e w' => e = .returned (.tuple #[.int .u64 (tokensV t p), .int .i64 (tokensE t p)]) ∧ Ch [] w w' := by
 have hcr := cntV_range' t.anchor p.token t.tokens
 refine calls_of (n := 30) (E := [(0, .agg (Pf.c p ad c).toArray), (1, .agg (Tm.c t).toArray)]) (W := Hp w [] []) Try.func41 rfl rfl (Nat.le_of_ble_eq_true rfl) rfl (Hp.nil _ _) ?_
 refine jsr ?_
 refine jl_m rfl (by decide) rfl (m_box rfl rfl) (fun b2 => ?_)
 refine jl_m rfl (by decide) rfl (m_box rfl rfl) (fun b3 => ?_)
 refine jz ?_
 refine jz ?_
 refine jnt ?_
 refine jc_seq ?_
 refine jsr ?_
 refine jz ?_
 refine jz ?_
 refine jy (y_seql rfl rfl) ?_
 refine jl_prop (fun h10 => ?_) (fun h10 => ?_)
 ·skip
  refine jnt ?_
  refine jc_true rfl ?_
  refine jsr ?_
  refine jz ?_
  refine jz ?_
  refine jnt ?_
  refine jc_ret ?_
  refine jq_then_ret ?_
  refine jq_ret2 rfl rfl rfl ?_
  exact fun _ hw => ⟨by have f := tok_none (t := t) (p := p) (by assumption); rw [f.1, f.2] <;> rfl, hw.ch⟩
 ·skip
  refine jnt ?_
  refine jc_false rfl ?_
  refine jc_skip ?_
  refine jq_then ?_
  refine jsr ?_
  refine jz ?_
  refine jz ?_
  refine jz ?_
  refine jz ?_
  refine jz ?_
  refine jz ?_
  refine jpc (goes_func rfl) (fun w1 hw1 => count_any t.anchor p.token t.tokens w1 hf.tokens) ?_
  refine jz ?_
  refine jz ?_
  refine jz ?_
  refine jz ?_
  refine jz ?_
  refine jnt ?_
  refine jc_seq ?_
  refine jsr ?_
  refine jz ?_
  refine jy (y_neq rfl rfl) ?_
  refine jl_prop (fun h22 => ?_) (fun h22 => ?_)
  ·first
   | (exfalso; omega)
   | (
    refine jnt ?_
    refine jc_true rfl ?_
    refine jsr ?_
    refine jz ?_
    refine jz ?_
    refine jz ?_
    refine jnt ?_
    refine jc_ret ?_
    refine jq_then_ret ?_
    refine jq_ret2 rfl rfl rfl ?_
    exact fun _ hw => ⟨by have f := tok_bad (t := t) (p := p) (by assumption) (by assumption); rw [f.1, f.2] <;> rfl, hw.ch⟩
    )
  ·first
   | (exfalso; omega)
   | (
    refine jnt ?_
    refine jc_false rfl ?_
    refine jc_skip ?_
    refine jq_then ?_
    refine jsr ?_
    refine jz ?_
    refine jz ?_
    refine jz ?_
    refine jpc (goes_func rfl) (fun w1 hw1 => value_any _ _ w1 (by simp only [fits]; omega) hf.unit) ?_
    refine jz ?_
    refine jz ?_
    refine jz ?_
    refine jz ?_
    refine jnt ?_
    refine jc_ret ?_
    refine jq_ret2 rfl rfl rfl ?_
    exact fun _ hw => ⟨by have f := tok_good (t := t) (p := p) (by assumption) (Decidable.not_not.1 (by assumption)); rw [f.1, f.2] <;> rfl, hw.ch⟩
    )

theorem faces_any (p : Pf) (ad : Option Addr) (c : Nat) (t : Tm) (w : World) (hE : ElAt w ad 10 (p.wins.map Wn.c)) (hf : p.Fit) (hl : p.wins.length ≤ 1000) (hs : ∀ x ∈ p.wins, x.salt.size ≤ 1000000) :
  Calls Try.prog 42 #[.agg (Pf.c p ad c).toArray, .agg (Tm.c t).toArray] w fun e w' => ∃ pr : Option Addr × Nat, e = .returned (.tuple #[.slice pr.1 (facesV t p.wins).length pr.2, .int .i64 (facesE t [] p.wins)]) ∧ Fresh w w' (.row pr.1 ((facesV t p.wins).length) pr.2 23 1 ((facesV t p.wins).map (Value.int .u64))) := by
 refine calls_of (n := 53) (E := [(0, .agg (Pf.c p ad c).toArray), (1, .agg (Tm.c t).toArray)]) (W := Hp w [] []) Try.func42 rfl rfl (Nat.le_of_ble_eq_true rfl) rfl (Hp.nil _ _) ?_
 refine jsr ?_
 refine jl_m rfl (by decide) rfl (m_box rfl rfl) (fun b2 => ?_)
 refine jl_m rfl (by decide) rfl (m_box rfl rfl) (fun b3 => ?_)
 refine jz ?_
 refine jz ?_
 refine jnt ?_
 refine jsr ?_
 refine jz ?_
 refine jnt ?_
 refine jc_seq ?_
 refine jc_world (fun _ h => h.nilrow 23 1) ?_
 refine jc_region ?_
 refine jl_m rfl (by decide) rfl (m_makeMap) (fun b12 => ?_)
 refine jz ?_
 refine jnt ?_
 refine jc_seq ?_
 refine jsr ?_
 refine jz ?_
 refine jz ?_
 refine jy (y_len_slice rfl) ?_
 refine jz ?_
 refine jnt ?_
 refine jc_block ?_
 refine jc_loop3 (fun (i : Nat) (au : Option Addr) (cu : Nat) => [(2, .pointer (some ⟨b2, 0, none⟩)), (3, .pointer (some ⟨b3, 0, none⟩)), (6, .slice au i cu), (7, .map (some b12)), (14, .slice ad p.wins.length c), (15, .int .i64 p.wins.length), (16, .int .i64 (i : Nat))]) (fun (i : Nat) (au : Option Addr) (cu : Nat) => fun w' => (i ≤ p.wins.length ∧ facesE t [] p.wins = facesE t ((p.wins.take i).map (·.t.serial)) (p.wins.drop i)) ∧ Hp w [] [.row au (i) cu 23 1 (((p.wins.take i).map (·.t.face)).map (Value.int .u64)), .obj b12 (setO (((p.wins.take i).map (·.t.serial)).map (Value.int .u64))), .cells b3 (Tm.c t), .cells b2 (Pf.c p ad c)] w') (fun (i : Nat) (au : Option Addr) (cu : Nat) => p.wins.length - i) 0 none 0 ?_ ?_ ?_
 ·exact ⟨rfl, rfl, rfl, rfl, rfl, rfl, rfl, trivial⟩
 ·exact fun _ h => ⟨⟨by omega, rfl⟩, h.part (.cons del1 (.cons del0 (.cons del0 (.cons del0 .nil))))⟩
 ·intro i au cu
  refine jc_and (fun hi => ?_)
  refine jsr ?_
  refine jy (y_lss rfl rfl) ?_
  refine jl_prop (fun h17 => ?_) (fun h17 => ?_)
  ·first
   | (exfalso; omega)
   | (
    have hlt : i < p.wins.length := by omega
    have hfx := hf.wins _ (List.getElem_mem hlt)
    have hsx := hs _ (List.getElem_mem hlt)
    obtain ⟨bb, oo, ea, hold⟩ := hE.get hlt
    subst ea
    have hst := face_step hlt hi.2
    have hft := face_take hlt
    have hse := ser_take hlt
    generalize hxe : p.wins[i]'hlt = x at *
    refine jnt ?_
    refine jc_seq ?_
    refine jc_true rfl ?_
    refine jc_skip ?_
    refine jq_then ?_
    refine jc_seq ?_
    refine jc_block ?_
    refine jsr ?_
    refine jy (y_indexAddr_slice (off := oo + i * 10) rfl rfl (by omega) (by omega) (by omega)) ?_
    refine jy (y_loadAgg_old rfl rfl hold (by simp)) ?_
    refine jl_m rfl (by decide) rfl (m_alloc) (fun b9 => ?_)
    refine jst ?_
    refine jnt ?_
    refine jc_seq ?_
    refine jc_block ?_
    refine jsr ?_
    refine jz ?_
    refine jz ?_
    refine jz ?_
    refine jz ?_
    refine jz ?_
    refine jy (y_sneq rfl rfl) ?_
    refine jl_bool (fun h26 => ?_) (fun h26 => ?_)
    ·skip
     refine jz ?_
     refine jnt ?_
     refine jc_true rfl ?_
     refine jc_seq ?_
     have hfe : faceE1 t ((p.wins.take i).map (·.t.serial)) x = 13 := by unfold faceE1; rw [if_neg (by simp_all)]
     refine jc_region ?_
     refine jz ?_
     refine jz ?_
     refine jnt ?_
     refine jc_ret ?_
     refine jq_block_ret ?_
     refine jq_then_ret ?_
     refine jq_block_ret ?_
     refine jq_then_ret ?_
     refine jq_then_ret ?_
     refine jq_block_ret ?_
     refine jq_then_ret ?_
     refine jq_ret2 rfl rfl rfl ?_
     exact fun _ hw => ⟨(none, 0), by have f := face_no (t := t) (l := p.wins) (n := 13) (by first | decide | assumption) ((hst.1 (by rw [hfe]; first | decide | assumption)).trans hfe); rw [f.1, f.2] <;> rfl, by have f := face_no (t := t) (l := p.wins) (n := 13) (by first | decide | assumption) ((hst.1 (by rw [hfe]; first | decide | assumption)).trans hfe); rw [f.1]; exact (Hp.nilrow 23 1 (Hp.of_ch hw.ch)).fresh⟩
    ·skip
     refine jz ?_
     refine jnt ?_
     refine jc_false rfl ?_
     refine jsr ?_
     refine jz ?_
     refine jz ?_
     refine jz ?_
     refine jz ?_
     refine jy (y_lookup (c := Value.int .u64) rfl rfl (by first | exact mem0 | exact mem1 | exact mem2 | exact mem3 | exact mem4 | exact mem5)) ?_
     refine jl_bool (fun h32 => ?_) (fun h32 => ?_)
     ·skip
      refine jz ?_
      refine jnt ?_
      refine jc_true rfl ?_
      refine jc_seq ?_
      have hfe : faceE1 t ((p.wins.take i).map (·.t.serial)) x = 7 := by unfold faceE1; rw [if_pos (by simp_all), if_pos (of_decide_eq_true h32)]
      refine jc_region ?_
      refine jz ?_
      refine jz ?_
      refine jnt ?_
      refine jc_ret ?_
      refine jq_block_ret ?_
      refine jq_then_ret ?_
      refine jq_block_ret ?_
      refine jq_then_ret ?_
      refine jq_then_ret ?_
      refine jq_block_ret ?_
      refine jq_then_ret ?_
      refine jq_ret2 rfl rfl rfl ?_
      exact fun _ hw => ⟨(none, 0), by have f := face_no (t := t) (l := p.wins) (n := 7) (by first | decide | assumption) ((hst.1 (by rw [hfe]; first | decide | assumption)).trans hfe); rw [f.1, f.2] <;> rfl, by have f := face_no (t := t) (l := p.wins) (n := 7) (by first | decide | assumption) ((hst.1 (by rw [hfe]; first | decide | assumption)).trans hfe); rw [f.1]; exact (Hp.nilrow 23 1 (Hp.of_ch hw.ch)).fresh⟩
     ·skip
      refine jz ?_
      refine jnt ?_
      refine jc_false rfl ?_
      refine jc_skip ?_
      refine jq_block ?_
      refine jq_then ?_
      refine jc_seq ?_
      have hfe : faceE1 t ((p.wins.take i).map (·.t.serial)) x = wonE t.client x := by unfold faceE1; rw [if_pos (by simp_all), if_neg (of_decide_eq_false h32)]
      refine jc_region ?_
      refine jz ?_
      refine jz ?_
      refine jz ?_
      refine jpc (goes_func rfl) (fun w1 hw1 => won_any t.client x w1 hfx hsx) ?_
      refine jz ?_
      refine jz ?_
      refine jz ?_
      refine jz ?_
      refine jz ?_
      refine jnt ?_
      refine jc_seq ?_
      refine jsr ?_
      refine jz ?_
      refine jy (y_neq rfl rfl) ?_
      refine jl_prop (fun h41 => ?_) (fun h41 => ?_)
      ·first
       | (exfalso; omega)
       | (
        refine jnt ?_
        refine jc_true rfl ?_
        refine jsr ?_
        refine jz ?_
        refine jz ?_
        refine jz ?_
        refine jnt ?_
        refine jc_ret ?_
        refine jq_then_ret ?_
        refine jq_block_ret ?_
        refine jq_then_ret ?_
        refine jq_then_ret ?_
        refine jq_block_ret ?_
        refine jq_then_ret ?_
        refine jq_ret2 rfl rfl rfl ?_
        exact fun _ hw => ⟨(none, 0), by have f := face_no (t := t) (l := p.wins) (n := wonE t.client x) (by first | decide | assumption) ((hst.1 (by rw [hfe]; first | decide | assumption)).trans hfe); rw [f.1, f.2] <;> rfl, by have f := face_no (t := t) (l := p.wins) (n := wonE t.client x) (by first | decide | assumption) ((hst.1 (by rw [hfe]; first | decide | assumption)).trans hfe); rw [f.1]; exact (Hp.nilrow 23 1 (Hp.of_ch hw.ch)).fresh⟩
        )
      ·first
       | (exfalso; omega)
       | (
        refine jnt ?_
        refine jc_false rfl ?_
        refine jc_skip ?_
        refine jq_then ?_
        refine jsr ?_
        refine jz ?_
        refine jz ?_
        refine jl_m rfl (by decide) rfl (m_buildSlice (by decide) (Built.cell rfl rfl rfl (by repeat constructor) Built.nil)) (fun b45 => ?_)
        refine jl_m2 rfl (by decide) rfl (m_append rfl rfl (by first | exact del0 | exact del1 | exact del2 | exact del3 | exact del4) (by first | exact del0 | exact del1 | exact del2 | exact del3 | exact del4) rfl (by omega) (by omega)) (fun a46 c46 => ?_)
        refine jz ?_
        refine jnt ?_
        refine jc_region ?_
        refine jz ?_
        refine jz ?_
        refine jz ?_
        refine jz ?_
        refine jl_w rfl rfl (w_mapUpdate (c := Value.int .u64) rfl rfl rfl (of_decide_eq_false h32) (by first | exact rep0 | exact rep1 | exact rep2 | exact rep3 | exact rep4 | exact rep5)) ?_
        refine jl_nil ?_
        refine jq_block ?_
        refine jq_then ?_
        refine jc_region ?_
        refine jy (y_add_fits rfl rfl (by simp only [fits]; omega)) ?_
        refine jz ?_
        refine jl_nil ?_
        refine jq_round3 (i := i) (j := au) (l := cu) (i + 1) a46 c46 ?_ ?_ ?_
        ·omega
        ·exact ⟨rfl, rfl, rfl, rfl, rfl, rfl, lk_int rfl (by omega), trivial⟩
        ·exact fun _ h => ⟨⟨by omega, hst.2 (by rw [hfe]; omega)⟩, (h.part (F := [.row a46 (i + 1) c46 23 1 (((p.wins.take i).map (·.t.face)).map (Value.int .u64) ++ [.int .u64 (wonV t.client x)]), .obj b12 (setO ((((p.wins.take i).map (·.t.serial)) ++ [x.t.serial]).map (Value.int .u64))), .cells b3 (Tm.c t), .cells b2 (Pf.c p (some ⟨bb, oo, none⟩) c)]) (.cons (by first | exact del0 | exact del1 | exact del2) (.cons (by first | exact del0 | exact del1 | exact del2) (.cons (by first | exact del0 | exact del1 | exact del2) (.cons (by first | exact del0 | exact del1 | exact del2) .nil))))).cast (by rw [hse, hft]; have e : wonV t.client x = x.t.face := (by unfold wonV; rw [if_pos (by omega)]); rw [e]; simp only [List.map_append]; rfl)⟩
        )
    )
  ·first
   | (exfalso; omega)
   | (
    refine jnt ?_
    refine jc_seq ?_
    refine jc_false rfl ?_
    refine jc_exit ?_
    refine jq_then_exit ?_
    refine jq_then_exit ?_
    refine jq_hit ?_
    refine jq_then ?_
    refine jsr ?_
    refine jz ?_
    refine jz ?_
    refine jz ?_
    refine jnt ?_
    refine jc_ret ?_
    refine jq_ret2 rfl rfl rfl ?_
    exact fun _ hw => (by have hie : i = p.wins.length := (by omega); have h1 := hi.2; subst hie; have f := face_yes h1; exact ⟨(au, cu), by rw [f.1, f.2, List.length_map] <;> rfl, by rw [f.1, List.length_map]; rw [List.take_length] at hw; exact (hw.part (.cons del0 .nil)).fresh⟩)
    )

theorem worth_any (t : Tm) (p : Pf) (ad : Option Addr) (c : Nat) (w : World) (hE : ElAt w ad 10 (p.wins.map Wn.c)) (hg : t.Fit) (hf : p.Fit) (hl : p.wins.length ≤ 1000) (hc : t.chan.size ≤ 1000000000) :
  Calls Try.prog 16 #[.agg (Tm.c t).toArray, .agg (Pf.c p ad c).toArray] w fun e w' => e = .returned (.tuple #[.int .u64 (worthV t p), .int .i64 (worthE t p)]) ∧ Ch [] w w' := by
 refine calls_of (n := 48) (E := [(0, .agg (Tm.c t).toArray), (1, .agg (Pf.c p ad c).toArray)]) (W := Hp w [] []) Try.func16 rfl rfl (Nat.le_of_ble_eq_true rfl) rfl (Hp.nil _ _) ?_
 refine jsr ?_
 refine jl_m rfl (by decide) rfl (m_box rfl rfl) (fun b2 => ?_)
 refine jl_m rfl (by decide) rfl (m_box rfl rfl) (fun b3 => ?_)
 refine jz ?_
 refine jz ?_
 refine jnt ?_
 refine jc_seq ?_
 refine jsr ?_
 refine jz ?_
 refine jpc (goes_func rfl) (fun w1 hw1 => right_any p ad c w1 (hE.keep hw1) (by omega)) ?_
 refine jl_bool (fun h11 => ?_) (fun h11 => ?_)
 ·skip
  refine jz ?_
  refine jnt ?_
  refine jc_false rfl ?_
  refine jc_skip ?_
  refine jq_then ?_
  refine jc_seq ?_
  have hrb : pfRight p = true := by assumption
  have hr := pfRight_iff.1 hrb
  have hsl : ∀ x ∈ p.wins, x.salt.size ≤ 1000000 := fun x hx => by have := (wnMay_iff.1 (hr.1 x hx)).2; omega
  have hr2 := hr.2.1
  refine jc_region ?_
  refine jz ?_
  refine jz ?_
  refine jpc (goes_func rfl) (fun w1 hw1 => paid_any p ad c t w1 hf hc (by omega)) ?_
  refine jz ?_
  refine jz ?_
  refine jz ?_
  refine jz ?_
  refine jz ?_
  refine jnt ?_
  refine jc_seq ?_
  refine jsr ?_
  refine jz ?_
  refine jy (y_neq rfl rfl) ?_
  refine jl_prop (fun h20 => ?_) (fun h20 => ?_)
  ·first
   | (exfalso; omega)
   | (
    refine jnt ?_
    refine jc_true rfl ?_
    refine jsr ?_
    refine jz ?_
    refine jz ?_
    refine jz ?_
    refine jnt ?_
    refine jc_ret ?_
    refine jq_then_ret ?_
    refine jq_ret2 rfl rfl rfl ?_
    exact fun _ hw => ⟨by have f := worth_paid (t := t) hrb (by assumption); rw [f.1, f.2] <;> rfl, hw.ch⟩
    )
  ·first
   | (exfalso; omega)
   | (
    refine jnt ?_
    refine jc_false rfl ?_
    refine jc_skip ?_
    refine jq_then ?_
    refine jsr ?_
    refine jz ?_
    refine jz ?_
    refine jpc (goes_func rfl) (fun w1 hw1 => tokens_any p ad c t w1 hg) ?_
    refine jz ?_
    refine jz ?_
    refine jz ?_
    refine jz ?_
    refine jz ?_
    refine jnt ?_
    refine jc_seq ?_
    refine jsr ?_
    refine jz ?_
    refine jy (y_neq rfl rfl) ?_
    refine jl_prop (fun h29 => ?_) (fun h29 => ?_)
    ·first
     | (exfalso; omega)
     | (
      refine jnt ?_
      refine jc_true rfl ?_
      refine jsr ?_
      refine jz ?_
      refine jz ?_
      refine jz ?_
      refine jnt ?_
      refine jc_ret ?_
      refine jq_then_ret ?_
      refine jq_ret2 rfl rfl rfl ?_
      exact fun _ hw => ⟨by have f := worth_tok (t := t) hrb (by assumption) (by assumption); rw [f.1, f.2] <;> rfl, hw.ch⟩
      )
    ·first
     | (exfalso; omega)
     | (
      refine jnt ?_
      refine jc_false rfl ?_
      refine jc_skip ?_
      refine jq_then ?_
      refine jsr ?_
      refine jz ?_
      refine jz ?_
      refine jl_fcall rfl (by decide) rfl (goes_func rfl) (fun w1 hw1 => faces_any p ad c t w1 (hE.keep hw1) hf hl hsl) (fun ⟨au, cu⟩ => ?_)
      refine jz ?_
      refine jz ?_
      refine jz ?_
      refine jz ?_
      refine jz ?_
      refine jnt ?_
      refine jc_seq ?_
      refine jsr ?_
      refine jz ?_
      refine jy (y_neq rfl rfl) ?_
      refine jl_prop (fun h38 => ?_) (fun h38 => ?_)
      ·first
       | (exfalso; omega)
       | (
        refine jnt ?_
        refine jc_true rfl ?_
        refine jsr ?_
        refine jz ?_
        refine jz ?_
        refine jz ?_
        refine jnt ?_
        refine jc_ret ?_
        refine jq_then_ret ?_
        refine jq_ret2 rfl rfl rfl ?_
        exact fun _ hw => ⟨by have f := worth_face (t := t) hrb (by assumption) (by assumption) (by assumption); rw [f.1, f.2] <;> rfl, hw.ch⟩
        )
      ·first
       | (exfalso; omega)
       | (
        refine jnt ?_
        refine jc_false rfl ?_
        refine jc_skip ?_
        refine jq_then ?_
        refine jc_seq ?_
        have hwa := worth_all (t := t) (p := p) hrb (by assumption) (by assumption) (by assumption)
        have hfl : (facesV t p.wins).length = p.wins.length := by rw [faces_zero (by omega), List.length_map]
        have hfv : ∀ n ∈ (facesV t p.wins ++ [paidV t p, tokensV t p]), fits .u64 n := by rw [hwa.1]; exact parts_fit hg hf
        refine jc_region ?_
        refine jz ?_
        refine jz ?_
        refine jz ?_
        refine jl_m rfl (by decide) rfl (m_buildSlice (by decide) (Built.cell rfl rfl rfl (by repeat constructor) (Built.cell rfl rfl rfl (by repeat constructor) Built.nil))) (fun b43 => ?_)
        refine jl_m2 rfl (by decide) rfl (m_append rfl rfl (by first | exact del0 | exact del1 | exact del2 | exact del3 | exact del4) (by first | exact del0 | exact del1 | exact del2 | exact del3 | exact del4) rfl (by omega) (by omega)) (fun a44 c44 => ?_)
        refine jl_as (u := .slice a44 (facesV t p.wins ++ [paidV t p, tokensV t p]).length c44) (by rw [List.length_append]; rfl) ?_
        refine jpc (goes_func rfl) (fun w1 hw1 => nsum_any a44 c44 (facesV t p.wins ++ [paidV t p, tokensV t p]) w1 hfv (by rw [hwa.1]; simp only [partsA, List.length_append, List.length_map, List.length_cons, List.length_nil]; omega) (Ints.of_row (n := (facesV t p.wins).length + 2) (by rw [List.length_append]; rfl) (by rw [List.map_append]; exact hw1.get mem0))) ?_
        refine jz ?_
        refine jz ?_
        refine jz ?_
        refine jz ?_
        refine jnt ?_
        refine jc_ret ?_
        refine jq_ret2 rfl rfl rfl ?_
        exact fun _ hw => ⟨by rw [hwa.1, hwa.2.1, hwa.2.2] <;> rfl, hw.ch⟩
        )
      )
    )
 ·skip
  refine jz ?_
  refine jnt ?_
  refine jc_true rfl ?_
  refine jsr ?_
  refine jz ?_
  refine jz ?_
  refine jnt ?_
  refine jc_ret ?_
  refine jq_then_ret ?_
  refine jq_ret2 rfl rfl rfl ?_
  exact fun _ hw => ⟨by have f := worth_right (t := t) (p := p) (by assumption); rw [f.1, f.2] <;> rfl, hw.ch⟩

end Go.Proofs.Ytddpoigfliaklaa