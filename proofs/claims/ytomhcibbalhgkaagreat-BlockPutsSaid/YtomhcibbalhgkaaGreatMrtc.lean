/- Plain law of transactions: what is encoded is decoded; what is decoded, encoded, are these bytes. No program in sight. -/
import Derived.Test.YtomhcibbalhgkaaGreatCi
import Derived.Test.YtomhcibbalhgkaaGreatMrtb
namespace Go.Proofs.YtomhcibbalhgkaaGreat
open Go.RowKit

def coBy (t : Trx) : ByteArray := oneB 67 ++ (oneB t.ins.length ++ (catB (t.ins.map inBy) ++ (oneB t.outs.length ++ catB (t.outs.map ouBy))))
theorem txCore_eq {t : Trx} (h : txRight t = true) : txCore t = coBy t := by
  obtain ⟨h1, _, h3, h4, h5, _⟩ := txRight_iff.1 h
  unfold txCore txPut txIns
  rw [if_pos h, wByte_add (n := 67) (by omega), wByte_add (n := (t.ins.length : Int)) (by omega), wFold_add (f := putIn) (g := inBy) (fun w x hx => putIn_add (h1 x hx)), wByte_add (n := (t.outs.length : Int)) (by omega), wFold_add (f := putOu) (g := ouBy) (fun w x hx => putOu_add (h5 x hx))]
  simp only [wAdd_app]
  rw [wText_add rfl]
  show (⟨#[]⟩ : ByteArray) ++ _ = _
  rw [nilB]
  simp only [coBy, ByteArray.append_assoc]
theorem coTrx_at {t : Trx} (h : txRight t = true) (hf : t.Fit) : coTrx (coBy t) = ⟨t.ins.map inS, t.outs, pf0⟩ ∧ coErr (coBy t) = 0 := by
  obtain ⟨h1, _, h3, h4, h5, _⟩ := txRight_iff.1 h
  obtain ⟨S, hS⟩ : ∃ S, coBy t = S := ⟨_, rfl⟩
  have hA : At S 0 (coBy t) := by rw [← hS]; exact At.self _
  have hz : S.size = (coBy t).size := by rw [hS]
  rw [hS]
  unfold coBy at hA hz
  simp only [At.app, oneB_size] at hA
  simp only [ByteArray.size_append, oneB_size] at hz
  obtain ⟨a1, a2⟩ := by_at hA.1 (by omega)
  have eA : cA S = (1, 0) := by unfold cA; rw [show byV S r00 = 67 from a1, if_pos rfl]; exact a2
  obtain ⟨b1, b2⟩ := by_at (n := (t.ins.length : Int)) hA.2.1 (by omega)
  have eM : manyV S (cA S) 4 = t.ins.length ∧ manyS S (cA S) 4 = (2, 0) := by
    unfold manyV manyS
    rw [eA, show byV S (1, 0) = t.ins.length from b1, if_pos (by omega), if_pos (by omega)]
    exact ⟨rfl, b2⟩
  have eN : cN S = t.ins.length := by unfold cN; rw [eM.1]; rfl
  have eI : cI S = (t.ins.map inS, (2 + (catB (t.ins.map inBy)).size, 0)) := by
    unfold cI
    rw [eM.2, eN]
    exact rdMany_at (fun v hv p hp => rdIn_at (h1 v hv) hp) hA.2.2.1
  obtain ⟨c1, c2⟩ := by_at (n := (t.outs.length : Int)) hA.2.2.2.1 (by omega)
  simp only [Nat.zero_add] at c1 c2
  have eK : manyV S (cI S).2 4 = t.outs.length ∧ manyS S (cI S).2 4 = (2 + (catB (t.ins.map inBy)).size + 1, 0) := by
    unfold manyV manyS
    rw [eI, show byV S (2 + (catB (t.ins.map inBy)).size, 0) = t.outs.length from c1, if_pos (by omega), if_pos (by omega)]
    exact ⟨rfl, c2⟩
  have eL : cM S = t.outs.length := by unfold cM; rw [eK.1]; rfl
  have eO : cO S = (t.outs, (S.size, 0)) := by
    unfold cO
    rw [eK.2, eL, rdMany_at (enc := ouBy) (g := id) (fun v hv p hp => rdOu_at (h5 v hv) (hf.outs v hv) hp) (by simpa using hA.2.2.2.2), List.map_id]
    rw [hz]
    congr 2
    omega
  refine ⟨?_, ?_⟩
  · unfold coTrx; rw [eI, eO]
  · unfold coErr; rw [eO]; exact end_whole
theorem many_back {S : ByteArray} {x : RS} (h : (manyS S x 4).2 = 0) : x.2 = 0 ∧ (1 ≤ manyV S x 4 ∧ manyV S x 4 ≤ 4) ∧ At S x.1 (oneB (manyV S x 4)) ∧ manyS S x 4 = (x.1 + 1, 0) := by
  unfold manyS manyV at *
  by_cases h1 : 1 ≤ byV S x ∧ byV S x ≤ 4
  · rw [if_pos h1] at h
    rw [if_pos h1, if_pos h1]
    obtain ⟨a0, a1, a2⟩ := by_back h
    exact ⟨a0, h1, a1, a2⟩
  · rw [if_neg h1] at h
    exact absurd h fl_back
theorem coBy_back {S : ByteArray} (h : coErr S = 0) (hok : ∀ o ∈ (coTrx S).outs, ouFits o = true) : S = coBy (coTrx S) := by
  obtain ⟨z1, z2⟩ := end_back h
  have eO : (coTrx S).outs = (cO S).1 := rfl
  have eI : (coTrx S).ins = (cI S).1 := rfl
  have lO : (cO S).1.length = cM S := by unfold cO; exact rdMany_length _ _ _
  have lI : (cI S).1.length = cN S := by unfold cI; exact rdMany_length _ _ _
  have hcO : cO S = rdMany (rdOu S) (manyS S (cI S).2 4) (cM S) := by unfold cO; rfl
  have hcI : cI S = rdMany (rdIn S) (manyS S (cA S) 4) (cN S) := by unfold cI; rfl
  have okI := cI_ok S
  have okA := cA_ok S
  rw [hcO] at z1 z2
  obtain ⟨d0, d1, d2⟩ := rdMany_back (enc := ouBy) (ok := fun o => ouFits o = true) (fun x hx hk => rdOu_back hx hk) (manyS_ok okI) _ z1 (by rw [← hcO, ← eO]; exact hok)
  obtain ⟨c0, cr, c1, c2⟩ := many_back d0
  rw [hcI] at c0
  obtain ⟨b0, b1, b2⟩ := rdMany_back (enc := inBy) (ok := fun _ => True) (fun x hx _ => rdIn_back hx) (manyS_ok okA) _ c0 (fun _ _ => trivial)
  obtain ⟨a0, ar, a1, a2⟩ := many_back b0
  have hA67 : byV S r00 = 67 ∧ (byS S r00).2 = 0 ∧ cA S = byS S r00 := by
    have : cA S = if byV S r00 = 67 then byS S r00 else flS (byS S r00) 4 := by unfold cA; rfl
    by_cases h67 : byV S r00 = 67
    · rw [if_pos h67] at this
      rw [this] at a0
      exact ⟨h67, a0, this⟩
    · rw [if_neg h67] at this
      rw [this] at a0
      exact absurd a0 fl_back
  obtain ⟨_, r1, r2⟩ := by_back hA67.2.1
  rw [hA67.1] at r1
  have e1 : (cA S).1 = 1 := by rw [hA67.2.2, r2]
  have e2 : (manyS S (cA S) 4).1 = 2 := by rw [a2, e1]
  rw [← hcI] at b1 b2
  rw [← hcO] at d1 d2 z2
  have e3 : (cI S).2.1 = 2 + (catB ((cI S).1.map inBy)).size := by rw [b2, e2]
  have e4 : (manyS S (cI S).2 4).1 = 2 + (catB ((cI S).1.map inBy)).size + 1 := by rw [c2, e3]
  have n1 : manyV S (cA S) 4 = ((cI S).1.length : Nat) := by rw [lI]; exact (cN_le S).2
  have n2 : manyV S (cI S).2 4 = ((cO S).1.length : Nat) := by rw [lO]; exact (cM_le S).2
  rw [n1] at a1
  rw [n2] at c1
  have hA : At S 0 (coBy (coTrx S)) := by
    unfold coBy
    rw [eI, eO]
    simp only [At.app, oneB_size, Nat.zero_add]
    exact ⟨r1, a1.step e1, b1.step e2, c1.step e3, d1.step e4⟩
  refine hA.whole ?_
  have h1 := hA.le
  have h2 : (coBy (coTrx S)).size = (cO S).2.1 := by
    rw [d2, e4]
    unfold coBy
    rw [eI, eO]
    simp only [ByteArray.size_append, oneB_size]
    omega
  omega

/-! ### The signatures -/
theorem modify_mid {α : Type} (f : α → α) (a : α) (m : List α) : ∀ l : List α, (l ++ a :: m).modify l.length f = l ++ f a :: m
  | [] => rfl
  | b :: l => by
    show (b :: (l ++ a :: m)).modify (l.length + 1) f = _
    rw [List.modify_succ_cons, modify_mid f a m l]
    rfl
theorem modify_take {α : Type} (f : α → α) {m : List α} {k : Nat} (h : k < m.length) : (m.modify k f).take (k + 1) = m.take k ++ [f m[k]] := by
  have hl : (m.take k).length = k := by rw [List.length_take]; omega
  have hsp : m = m.take k ++ (m[k] :: m.drop (k + 1)) := by rw [← List.drop_eq_getElem_cons h, List.take_append_drop]
  have h1 := modify_mid f m[k] (m.drop (k + 1)) (m.take k)
  rw [hl, ← hsp] at h1
  rw [h1, List.take_append, hl, show k + 1 - k = 1 by omega, List.take_of_length_le (by omega)]
  rfl
def sgBy (i : Inp) : ByteArray := partS i.sig
theorem sg_at {S : ByteArray} {p : Nat} {l : List Inp} (hl : ∀ i ∈ l, i.sig.size ≤ 400) (h : At S p (catB (l.map sgBy))) : ∀ k, k ≤ l.length → sgX S (p, 0) k = (p + (catB ((l.take k).map sgBy)).size, 0) ∧ sgL S (p, 0) (l.map inS) k = l.take k ++ (l.drop k).map inS
  | 0, _ => ⟨rfl, rfl⟩
  | k + 1, hk => by
    obtain ⟨h1, h2⟩ := sg_at hl h k (by omega)
    have hlt : k < l.length := by omega
    have hsp : l = l.take k ++ (l[k] :: l.drop (k + 1)) := by rw [← List.drop_eq_getElem_cons hlt, List.take_append_drop]
    have hA : At S (p + (catB ((l.take k).map sgBy)).size) (partS l[k].sig) := by
      rw [hsp, List.map_append, catB_append, At.app] at h
      exact (At.app.1 (show At S _ (sgBy l[k] ++ catB ((l.drop (k + 1)).map sgBy)) from h.2)).1
    have hs := hl _ (List.getElem_mem hlt)
    obtain ⟨b1, b2⟩ := bl_at (m := 400) hA (by omega) (by omega)
    refine ⟨?_, ?_⟩
    · show blS S (sgX S (p, 0) k) 400 = _
      rw [h1, b2, List.take_succ_eq_append_getElem hlt, List.map_append, catB_append, ByteArray.size_append]
      have e1 : (catB ([l[k]].map sgBy)).size = 2 + l[k].sig.size := by show (partS l[k].sig ++ ⟨#[]⟩).size = _; rw [nilA, partS_size']
      rw [e1]
      simp only [Nat.add_assoc]
    · show (sgL S (p, 0) (l.map inS) k).modify k _ = _
      rw [h2, h1, b1, List.take_succ_eq_append_getElem hlt]
      rw [List.drop_eq_getElem_cons hlt, List.map_cons]
      have hlen : (l.take k).length = k := by rw [List.length_take]; omega
      have hm := modify_mid (fun i => (⟨i.pt, i.path, l[k].sig⟩ : Inp)) (inS l[k]) ((l.drop (k + 1)).map inS) (l.take k)
      rw [hlen] at hm
      rw [hm, List.append_assoc]
      rfl
theorem sg_back {S : ByteArray} {x : RS} {l : List Inp} (hx : okR S x) : ∀ k, k ≤ l.length → (sgX S x k).2 = 0 → x.2 = 0 ∧ At S x.1 (catB (((sgL S x l k).take k).map sgBy)) ∧ sgX S x k = (x.1 + (catB (((sgL S x l k).take k).map sgBy)).size, 0)
  | 0, _, h => ⟨h, At.nil hx, by show x = (x.1, 0); rw [← (show x.2 = 0 from h)]⟩
  | k + 1, hk, h => by
    obtain ⟨b0, _, _, b1, b2⟩ := bl_back (m := 400) (show (blS S (sgX S x k) 400).2 = 0 from h)
    obtain ⟨a0, a1, a2⟩ := sg_back (l := l) hx k (by omega) b0
    have hlen := sgL_length S x l k
    have hkl : k < (sgL S x l k).length := by omega
    have e : (sgL S x l (k + 1)).take (k + 1) = (sgL S x l k).take k ++ [(⟨((sgL S x l k)[k]).pt, ((sgL S x l k)[k]).path, blV S (sgX S x k) 400⟩ : Inp)] :=
      modify_take (fun i : Inp => (⟨i.pt, i.path, blV S (sgX S x k) 400⟩ : Inp)) hkl
    have ec : catB (((sgL S x l (k + 1)).take (k + 1)).map sgBy) = catB (((sgL S x l k).take k).map sgBy) ++ partS (blV S (sgX S x k) 400) := by
      rw [e, List.map_append, catB_append]
      show _ ++ (partS (blV S (sgX S x k) 400) ++ (⟨#[]⟩ : ByteArray)) = _
      rw [nilA]
    rw [ec]
    refine ⟨a0, At.app.2 ⟨a1, b1.step (by rw [a2])⟩, ?_⟩
    show blS S (sgX S x k) 400 = _
    rw [b2, ByteArray.size_append, partS_size', show (sgX S x k).1 = x.1 + (catB (((sgL S x l k).take k).map sgBy)).size by rw [a2], Nat.add_assoc]
theorem modify_in (s : ByteArray) : ∀ (m : List Inp) (k : Nat), (m.modify k fun i => (⟨i.pt, i.path, s⟩ : Inp)).map inBy = m.map inBy
  | [], k => by cases k <;> rfl
  | i :: m, 0 => rfl
  | i :: m, k + 1 => by rw [List.modify_succ_cons, List.map_cons, List.map_cons, modify_in s m k]
theorem sgL_in (S : ByteArray) (x : RS) (l : List Inp) : ∀ k, (sgL S x l k).map inBy = l.map inBy
  | 0 => rfl
  | k + 1 => (modify_in _ _ k).trans (sgL_in S x l k)
/-! ### The whole -/
def txBy (t : Trx) : ByteArray := partS (coBy t) ++ (catB (t.ins.map sgBy) ++ partS (pfBy t.pf))
theorem cat_size {α : Type} {f : α → ByteArray} {n : Nat} : ∀ {l : List α}, (∀ x ∈ l, (f x).size ≤ n) → (catB (l.map f)).size ≤ n * l.length
  | [], _ => Nat.zero_le _
  | x :: l, h => by
    show (f x ++ catB (l.map f)).size ≤ _
    have h1 := h x (.head _)
    have h2 := cat_size (l := l) fun y hy => h y (.tail _ hy)
    rw [ByteArray.size_append, List.length_cons, Nat.mul_succ]
    omega
theorem wnBy_size {x : Wn} (h : wnMay x = true) : (wnBy x).size ≤ 600 := by
  obtain ⟨⟨h1, h2, h3⟩, h4⟩ := wnMay_iff.1 h
  unfold wnBy
  simp only [ByteArray.size_append, putS_size, partS_size']
  omega
theorem pfBy_size {p : Pf} (h : pfRight p = true) : (pfBy p).size ≤ 4096 := by
  obtain ⟨h1, h2, h3, h4⟩ := pfRight_iff.1 h
  have h5 := cat_size (f := wnBy) (n := 600) (l := p.wins) fun x hx => wnBy_size (h1 x hx)
  unfold pfBy
  simp only [ByteArray.size_append, putS_size, partS_size', oneB_size]
  omega
theorem coBy_ne {t : Trx} : coBy t ≠ ⟨#[]⟩ := by
  intro h
  have := congrArg ByteArray.size h
  unfold coBy at this
  rw [ByteArray.size_append, oneB_size] at this
  have h0 : (⟨#[]⟩ : ByteArray).size = 0 := rfl
  omega
theorem txEnc_eq {t : Trx} (h : txRight t = true) : txEnc t = txBy t := by
  obtain ⟨h1, _, h3, h4, h5, h6⟩ := txRight_iff.1 h
  have hz := txCore_size (t := t)
  have hp : (pfBy t.pf).size ≤ 4096 := pfBy_size h6
  unfold txEnc txSigs
  rw [if_pos h, wBlob_add (t := txCore t) (by omega), wFold_add (f := putSig) (g := sgBy) (fun w x hx => wBlob_add (by have := (inFits_iff.1 (h1 x hx)).2.2.2; omega)), pfEnc_add h6, wBlob_add hp]
  simp only [wAdd_app]
  rw [wText_add rfl, txCore_eq h]
  show (⟨#[]⟩ : ByteArray) ++ _ = _
  rw [nilB]
  simp only [txBy, ByteArray.append_assoc]
theorem tx_of {t u : Trx} (h1 : t.ins = u.ins) (h2 : t.outs = u.outs) (h3 : t.pf = u.pf) : t = u := by cases t; cases u; simp_all
theorem dec_enc {t : Trx} (h : txRight t = true) (hf : t.Fit) : txErr (txEnc t) = 0 ∧ txDec (txEnc t) = t := by
  obtain ⟨h1, _, h3, h4, h5, h6⟩ := txRight_iff.1 h
  rw [txEnc_eq h]
  obtain ⟨S, hS⟩ : ∃ S, txBy t = S := ⟨_, rfl⟩
  have hA : At S 0 (txBy t) := by rw [← hS]; exact At.self _
  have hz : S.size = (txBy t).size := by rw [hS]
  rw [hS]
  have hcs : (coBy t).size ≤ 2000 := by rw [← txCore_eq h]; exact txCore_size
  have hps := pfBy_size h6
  unfold txBy at hA hz
  simp only [At.app, partS_size'] at hA
  simp only [ByteArray.size_append, partS_size'] at hz
  obtain ⟨a1, a2⟩ := bl_at (m := 4096) hA.1 (by omega) (by omega)
  have eC : dC S = coBy t := a1
  have eA : dA S = (0 + (2 + (coBy t).size), 0) := a2
  obtain ⟨c1, c2⟩ := coTrx_at h hf
  have eT : coTrx (dC S) = ⟨t.ins.map inS, t.outs, pf0⟩ := by rw [eC]; exact c1
  obtain ⟨s1, s2⟩ := sg_at (l := t.ins) (fun i hi => (inFits_iff.1 (h1 i hi)).2.2.2) hA.2.1 t.ins.length (Nat.le_refl _)
  rw [List.take_length] at s1
  rw [List.take_length, List.drop_length, List.map_nil, List.append_nil] at s2
  have eI : dI S = t.ins := by unfold dI; rw [eT, eA]; simp only [List.length_map]; exact s2
  have eB : dB S = (0 + (2 + (coBy t).size) + (catB (t.ins.map sgBy)).size, 0) := by unfold dB; rw [eT, eA]; simp only [List.length_map]; exact s1
  obtain ⟨p1, p2⟩ := bl_at (m := 4096) hA.2.2 (by omega) (by omega)
  have eP : dP S = pfBy t.pf := by unfold dP; rw [eB]; exact p1
  have eE : dE S = (S.size, 0) := by unfold dE; rw [eB, p2, hz]; simp only [Nat.zero_add, Nat.add_assoc]
  have hpd := pfDec_enc h6 hf.pf
  rw [pfEnc_add h6] at hpd
  have eD : dT S = t := tx_of eI (by show (coTrx (dC S)).outs = _; rw [eT]) (by show pfDec (dP S) = _; rw [eP]; exact hpd.2)
  have he : txErr S = 0 := by
    unfold txErr
    rw [eC, if_neg coBy_ne, c2, if_neg (by simp), eE, end_whole, if_neg (by simp), eP, show pfErr (pfBy t.pf) r00 = 0 from hpd.1, if_neg (by simp), eD, if_neg (by rw [h]; simp)]
  exact ⟨he, by unfold txDec; rw [if_pos he]; exact eD⟩
/-- The errors of a reader that nobody told of one. -/
def e35 (x : RS) : Prop := x.2 = 0 ∨ x.2 = 3 ∨ x.2 = 5
theorem tk35 {S : ByteArray} {x : RS} {n : Nat} (h : e35 x) : e35 (tkS S x n) := by
  unfold tkS
  split
  · split
    · exact .inl rfl
    · exact .inr (.inl rfl)
  · exact h
theorem bl35 {S : ByteArray} {x : RS} {m : Int} (h : e35 x) : e35 (blS S x m) := by
  have h1 := tk35 (S := S) (n := 2) h
  have h2 : e35 (blT S x m) := by
    unfold blT
    split
    · unfold failE e35
      simp only
      split
      · exact .inr (.inr rfl)
      · exact h1
    · exact h1
  have h3 := tk35 (S := S) (n := lenV S x) h2
  unfold blS
  split
  · split
    · exact h3
    · exact h3
  · exact h1
theorem sg35 {S : ByteArray} {x : RS} (h : e35 x) : ∀ k, e35 (sgX S x k)
  | 0 => h
  | k + 1 => bl35 (sg35 h k)
theorem enc_dec {S : ByteArray} (h : txErr S = 0) : txRight (txDec S) = true ∧ txEnc (txDec S) = S := by
  have e : txDec S = dT S := by unfold txDec; rw [if_pos h]
  rw [e]
  unfold txErr at h
  by_cases n1 : dC S = ⟨#[]⟩
  · rw [if_pos n1] at h
    exact absurd (end_back h).1 fl_back
  rw [if_neg n1] at h
  by_cases n2 : coErr (dC S) ≠ 0
  · rw [if_pos n2] at h; exact absurd h n2
  rw [if_neg n2] at h
  by_cases n3 : endE S (dE S) ≠ 0 ∧ endE S (dE S) ≠ 4
  · rw [if_pos n3] at h; exact absurd h n3.1
  rw [if_neg n3] at h
  by_cases n4 : pfErr (dP S) r00 ≠ 0
  · rw [if_pos n4] at h; exact absurd h n4
  rw [if_neg n4] at h
  by_cases n5 : (dE S).1 < S.size ∨ txRight (dT S) = false
  · rw [if_pos n5] at h; exact absurd h (by decide)
  have hr : txRight (dT S) = true := by
    cases hr : txRight (dT S)
    · exact absurd (.inr hr) n5
    · rfl
  refine ⟨hr, ?_⟩
  obtain ⟨h1, _, _, _, h5, h6⟩ := txRight_iff.1 hr
  have hE0 : (dE S).2 = 0 := by
    have h35 : e35 (dE S) := bl35 (sg35 (bl35 (.inl rfl)) _)
    have hlt : ¬ (dE S).1 < S.size := fun hh => n5 (.inl hh)
    unfold endE at n3
    rw [if_neg (fun hh => hlt hh.2)] at n3
    unfold e35 at h35
    omega
  obtain ⟨p0, _, _, p1, p2⟩ := bl_back (m := 4096) (show (blS S (dB S) 4096).2 = 0 from hE0)
  have okA : okR S (dA S) := dA_ok S
  have hlen : (coTrx (dC S)).ins.length = (dI S).length := (dI_len S).symm
  obtain ⟨s0, s1, s2⟩ := sg_back (l := (coTrx (dC S)).ins) okA (coTrx (dC S)).ins.length (Nat.le_refl _) (show (dB S).2 = 0 from p0)
  rw [show sgL S (dA S) (coTrx (dC S)).ins (coTrx (dC S)).ins.length = dI S from rfl, List.take_of_length_le (by omega)] at s1 s2
  obtain ⟨_, _, _, a1, a2⟩ := bl_back (m := 4096) (show (blS S r00 4096).2 = 0 from s0)
  have hco : coBy (dT S) = dC S := by
    have := coBy_back (S := dC S) (by simpa using n2) h5
    rw [this]
    have hin : (dI S).map inBy = (coTrx (dC S)).ins.map inBy := sgL_in _ _ _ _
    unfold coBy
    show oneB 67 ++ (oneB (dI S).length ++ (catB ((dI S).map inBy) ++ _)) = _
    rw [hin, dI_len]
    rfl
  have hpe := pfEnc_dec (S := dP S) (by simpa using n4)
  rw [pfEnc_add hpe.1] at hpe
  rw [txEnc_eq hr]
  have eA : (dA S).1 = 2 + (dC S).size := by show (blS S r00 4096).1 = _; rw [a2]; show 0 + (2 + (dC S).size) = _; omega
  have eB : (dB S).1 = 2 + (dC S).size + (catB ((dI S).map sgBy)).size := by show (sgX S (dA S) _).1 = _; rw [s2, eA]
  have hA : At S 0 (txBy (dT S)) := by
    unfold txBy
    rw [hco]
    simp only [At.app, partS_size', Nat.zero_add]
    refine ⟨a1, s1.step eA, ?_⟩
    show At S _ (partS (pfBy (pfDec (dP S))))
    rw [hpe.2]
    exact p1.step eB
  refine (hA.whole ?_).symm
  have hle := hA.le
  have h7 : (txBy (dT S)).size = (dE S).1 := by
    show _ = (blS S (dB S) 4096).1
    rw [p2]
    show _ = (dB S).1 + (2 + (dP S).size)
    rw [eB]
    unfold txBy
    rw [hco]
    simp only [ByteArray.size_append, partS_size']
    show _ + (_ + (2 + (pfBy (pfDec (dP S))).size)) = _
    rw [hpe.2]
    show 2 + (dC S).size + ((catB ((dI S).map sgBy)).size + (2 + (dP S).size)) = _
    omega
  have h8 : ¬ (dE S).1 < S.size := fun hh => n5 (.inl hh)
  omega
end Go.Proofs.YtomhcibbalhgkaaGreat
