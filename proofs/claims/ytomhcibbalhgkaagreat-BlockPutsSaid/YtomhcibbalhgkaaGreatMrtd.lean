/- Plain law of transactions: what the laws of layer 9 say of cut ones. No program in sight. -/
import Derived.Test.YtomhcibbalhgkaaGreatMrtc
namespace Go.Proofs.YtomhcibbalhgkaaGreat
open Go.RowKit

theorem ctTk_fit {t : Tk} (h : t.Fit) : (ctTk t).Fit := ⟨h.serial, h.face, h.wins, h.many, h.client⟩
theorem ctWn_fit {x : Wn} (h : x.Fit) : (ctWn x).Fit := ⟨ctTk_fit h.t, h.drawn⟩
theorem ctPf_fit {p : Pf} (h : p.Fit) : (ctPf p).Fit := ⟨h.amount, fun x hx => by
  obtain ⟨y, hy, rfl⟩ := List.mem_map.1 hx
  exact ctWn_fit (h.wins y (List.mem_of_mem_take hy))⟩
theorem ctOu_fit {o : Oup} (h : o.Fit) : (ctOu o).Fit := ⟨h.kind, h.amount, h.expiry, h.unit, h.tokens⟩
theorem ctIn_fit {i : Inp} (h : i.Fit) : (ctIn i).Fit := ⟨h.out, h.path⟩
theorem ctTx_fit {t : Trx} (h : t.Fit) : (ctTx t).Fit := ⟨fun x hx => by
  obtain ⟨y, hy, rfl⟩ := List.mem_map.1 hx
  exact ctIn_fit (h.ins y (List.mem_of_mem_take hy)), fun x hx => by
  obtain ⟨y, hy, rfl⟩ := List.mem_map.1 hx
  exact ctOu_fit (h.outs y (List.mem_of_mem_take hy)), ctPf_fit h.pf⟩
theorem ctTx_len (t : Trx) : (ctTx t).ins.length ≤ 6 ∧ (ctTx t).outs.length ≤ 6 ∧ (ctTx t).pf.wins.length ≤ 6 := by
  refine ⟨?_, ?_, ?_⟩
  · show ((t.ins.take 6).map ctIn).length ≤ 6; rw [List.length_map, List.length_take]; omega
  · show ((t.outs.take 6).map ctOu).length ≤ 6; rw [List.length_map, List.length_take]; omega
  · show ((t.pf.wins.take 6).map ctWn).length ≤ 6; rw [List.length_map, List.length_take]; omega
theorem byte_fits {n : Int} (h : 0 ≤ n ∧ n ≤ 255) : fits .i64 n := by simp only [fits]; omega
theorem rdIn_fit (S : ByteArray) (x : RS) : (rdIn S x).1.Fit := ⟨byte_fits (byV_range _ _), byte_fits (byV_range _ _)⟩
theorem rdOu_fit (S : ByteArray) (x : RS) : (rdOu S x).1.Fit := by
  simp only [rdOu]
  split
  · exact ⟨byte_fits (byV_range _ _), nuV_range _ _, by simp only [fits]; decide, by simp only [fits]; decide, by simp only [fits]; decide⟩
  split
  · exact ⟨byte_fits (byV_range _ _), nuV_range _ _, smal_fits (nuV_range _ _).1, by simp only [fits]; decide, by simp only [fits]; decide⟩
  split
  · exact ⟨byte_fits (byV_range _ _), nuV_range _ _, smal_fits (nuV_range _ _).1, nuV_range _ _, smal_fits (nuV_range _ _).1⟩
  · exact ⟨byte_fits (byV_range _ _), nuV_range _ _, by simp only [fits]; decide, by simp only [fits]; decide, by simp only [fits]; decide⟩
theorem pf0_fit : pf0.Fit := ⟨by simp only [pf0, fits]; decide, fun x hx => by cases hx⟩
theorem pfDec_fit (S : ByteArray) : (pfDec S).Fit := by
  unfold pfDec
  split
  · exact ⟨nuV_range _ _, fun x hx => rdWins_fit _ _ _ x hx⟩
  · exact pf0_fit
theorem sgL_fit (S : ByteArray) (x : RS) (l : List Inp) (h : ∀ i ∈ l, i.Fit) : ∀ k, ∀ i ∈ sgL S x l k, i.Fit
  | 0 => h
  | k + 1 => fun i hi => by
    have hk := sgL_fit S x l h k
    have key : ∀ (s : ByteArray) (m : List Inp) (k : Nat), (∀ i ∈ m, i.Fit) → ∀ i ∈ m.modify k (fun i => (⟨i.pt, i.path, s⟩ : Inp)), i.Fit := by
      intro s m
      induction m with
      | nil => intro k _ i hi; cases k <;> cases hi
      | cons a m ih =>
        intro k hm i hi
        cases k with
        | zero =>
          rcases List.mem_cons.1 hi with rfl | hi
          · exact ⟨(hm a (.head _)).out, (hm a (.head _)).path⟩
          · exact hm i (.tail _ hi)
        | succ k =>
          rw [List.modify_succ_cons] at hi
          rcases List.mem_cons.1 hi with rfl | hi
          · exact hm _ (.head _)
          · exact ih k (fun j hj => hm j (.tail _ hj)) i hi
    exact key _ _ k hk i hi
theorem tx0_fit : tx0.Fit := ⟨fun x hx => (by cases hx), fun x hx => (by cases hx), pf0_fit⟩
theorem txDec_fit (S : ByteArray) : (txDec S).Fit := by
  unfold txDec
  split
  · refine ⟨sgL_fit _ _ _ (fun i hi => ?_) _, fun o ho => ?_, pfDec_fit _⟩
    · have : i ∈ (cI (dC S)).1 := hi
      unfold cI at this
      exact rdMany_all (P := fun i : Inp => i.Fit) (fun y => rdIn_fit _ y) _ _ i this
    · have : o ∈ (cO (dC S)).1 := ho
      unfold cO at this
      exact rdMany_all (P := fun i : Oup => i.Fit) (fun y => rdOu_fit _ y) _ _ o this
  · exact tx0_fit
theorem txDec_len (S : ByteArray) : (txDec S).ins.length ≤ 4 ∧ (txDec S).outs.length ≤ 4 ∧ (txDec S).pf.wins.length ≤ 4 := by
  unfold txDec
  split
  · exact dT_lens S
  · exact ⟨Nat.zero_le _, Nat.zero_le _, Nat.zero_le _⟩
theorem txEnc_size (t : Trx) : (txEnc t).size ≤ 1000000 := by
  unfold txEnc
  split
  · rename_i h
    obtain ⟨_, _, h3, _⟩ := txRight_iff.1 h
    refine Nat.le_trans (wText_size _) ?_
    have h1 := txSigs_size t (l := t.ins) (by omega)
    exact wle0 (wle_blob (by show (txSigs t).1.size + _ ≤ _; unfold txSigs; omega))
  · exact Nat.zero_le _
theorem txEnc_ne (t : Trx) : decide (txEnc t = ⟨#[]⟩) = !txRight t := by
  cases h : txRight t
  · unfold txEnc; rw [if_neg (by rw [h]; simp)]; decide
  · rw [txEnc_eq h]
    simp only [Bool.not_true, decide_eq_false_iff_not]
    intro e
    have := congrArg ByteArray.size e
    unfold txBy at this
    rw [ByteArray.size_append, partS_size'] at this
    have h0 : (⟨#[]⟩ : ByteArray).size = 0 := rfl
    omega
theorem txCore_not {t : Trx} (h : txRight t = false) : txCore t = ⟨#[]⟩ := by unfold txCore; rw [if_neg (by rw [h]; simp)]
theorem txID_not {t : Trx} (h : txRight t = false) : txID t = ⟨#[]⟩ := by unfold txID; rw [if_pos (txCore_not h)]
theorem txID_size {t : Trx} (h : txRight t = true) : (txID t).size = 16 := by
  unfold txID
  rw [if_neg (by rw [txCore_eq h]; exact coBy_ne)]
  exact tagS_size _ _
theorem inS_by (i : Inp) : inBy (inS i) = inBy i := rfl
theorem coBy_of {t u : Trx} (h1 : t.ins.map inS = u.ins.map inS) (h2 : t.outs = u.outs) : coBy t = coBy u := by
  have hl : t.ins.length = u.ins.length := by have := congrArg List.length h1; simpa using this
  have hm : t.ins.map inBy = u.ins.map inBy := by
    have := congrArg (List.map inBy) h1
    rw [List.map_map, List.map_map] at this
    exact this
  unfold coBy
  rw [hl, hm, h2]
theorem core_same {t u : Trx} (ht : txRight t = true) (hu : txRight u = true) (h1 : t.ins.map inS = u.ins.map inS) (h2 : t.outs = u.outs) : txCore t = txCore u := by rw [txCore_eq ht, txCore_eq hu, coBy_of h1 h2]
theorem id_same {t u : Trx} (h : txCore t = txCore u) : txID t = txID u := by unfold txID; rw [h]
def strip (t : Trx) : Trx := ⟨t.ins.map inS, t.outs, pf0⟩
theorem core_iff {a b : Trx} (ha : txRight a = true) (hb : txRight b = true) (fa : a.Fit) (fb : b.Fit) : decide (txCore a = txCore b) = decide (strip a = strip b) := by
  rw [decide_eq_decide]
  constructor
  · intro h
    rw [txCore_eq ha, txCore_eq hb] at h
    have h1 := (coTrx_at ha fa).1
    rw [h, (coTrx_at hb fb).1] at h1
    exact h1.symm
  · intro h
    exact core_same ha hb (congrArg Trx.ins h : (strip a).ins = (strip b).ins) (congrArg Trx.outs h : (strip a).outs = (strip b).outs)
theorem cut_cut (s : ByteArray) (n : Nat) : cutS (cutS s n) n = cutS s n := by
  have h := cutS_size s n
  have : min (cutS s n).size n = (cutS s n).size := by omega
  show (cutS s n).extract 0 (min (cutS s n).size n) = _
  rw [this, ByteArray.extract_zero_size]
theorem ctOu_ct (o : Oup) : ctOu (ctOu o) = ctOu o := by unfold ctOu; simp only [cut_cut]
theorem ctIn_ct (i : Inp) : ctIn (ctIn i) = ctIn i := by unfold ctIn; simp only [cut_cut]
theorem ctWn_ct (x : Wn) : ctWn (ctWn x) = ctWn x := by unfold ctWn ctTk; simp only [cut_cut]
theorem take_ct {α : Type} {f : α → α} (h : ∀ x, f (f x) = f x) (l : List α) : (((l.take 6).map f).take 6).map f = (l.take 6).map f := by
  rw [List.take_of_length_le (by rw [List.length_map, List.length_take]; omega), List.map_map]
  exact List.map_congr_left fun x _ => h x
theorem ctPf_ct (p : Pf) : ctPf (ctPf p) = ctPf p := by unfold ctPf; simp only [cut_cut, take_ct ctWn_ct]
theorem ctTx_ct (t : Trx) : ctTx (ctTx t) = ctTx t := by unfold ctTx; simp only [take_ct ctIn_ct, take_ct ctOu_ct, ctPf_ct]
/-- Inputs of which the first ones bear this signature. -/
def sgN (s : ByteArray) (l : List Inp) : Nat → List Inp
  | 0 => l
  | n + 1 => (sgN s l n).modify n fun i => ⟨i.pt, i.path, s⟩
theorem sgN_length (s : ByteArray) (l : List Inp) : ∀ n, (sgN s l n).length = l.length
  | 0 => rfl
  | n + 1 => by show ((sgN s l n).modify n _).length = _; rw [List.length_modify, sgN_length s l n]
theorem sgN_next {s : ByteArray} {l : List Inp} {i : Nat} (h : i < l.length) : (sgN s l (i + 1)).flatMap Inp.c = ((sgN s l i).flatMap Inp.c).set (i * 4 + 3) (.string s) := flat_sig _ _ _ (by rw [sgN_length]; exact h)
theorem sgN_eq (s : ByteArray) (l : List Inp) : ∀ k, k ≤ l.length → sgN s l k = (l.take k).map (fun i => ⟨i.pt, i.path, s⟩) ++ l.drop k
  | 0, _ => rfl
  | k + 1, hk => by
    have hlt : k < l.length := by omega
    show (sgN s l k).modify k _ = _
    rw [sgN_eq s l k (by omega), List.drop_eq_getElem_cons hlt]
    have hm := modify_mid (fun i => (⟨i.pt, i.path, s⟩ : Inp)) l[k] (l.drop (k + 1)) ((l.take k).map fun i => (⟨i.pt, i.path, s⟩ : Inp))
    rw [List.length_map, List.length_take, Nat.min_eq_left (by omega)] at hm
    rw [hm, List.take_succ_eq_append_getElem hlt, List.map_append, List.append_assoc]
    rfl
theorem sgN_all (s : ByteArray) (l : List Inp) : sgN s l l.length = l.map (fun i => ⟨i.pt, i.path, s⟩) := by
  rw [sgN_eq s l l.length (Nat.le_refl _), List.take_length, List.drop_length, List.append_nil]
theorem sgN_fit {s : ByteArray} {l : List Inp} (h : ∀ i ∈ l, i.Fit) : ∀ i ∈ sgN s l l.length, i.Fit := by
  rw [sgN_all]
  intro i hi
  obtain ⟨j, hj, rfl⟩ := List.mem_map.1 hi
  exact ⟨(h j hj).out, (h j hj).path⟩
theorem sgN_strip (s : ByteArray) (l : List Inp) : (sgN s l l.length).map inS = l.map inS := by
  rw [sgN_all, List.map_map]
  rfl
theorem ct_sig (t : Trx) {i : Nat} (h : i < (ctTx t).ins.length) : ((ctTx t).ins[i]'h).sig.size ≤ 450 := by
  have hm := List.getElem_mem h
  obtain ⟨y, _, e⟩ := List.mem_map.1 (show (ctTx t).ins[i]'h ∈ (t.ins.take 6).map ctIn from hm)
  rw [← e]
  exact cutS_size _ _
theorem bool3 (a b : Bool) : a = false ∨ (a = true ∧ b = false) ∨ (a = true ∧ b = true) := by cases a <;> cases b <;> simp
end Go.Proofs.YtomhcibbalhgkaaGreat
