/- Plain law of parts of messages: what was written is read; what was read, written, are the same bytes. No program in sight. -/
import Derived.Test.YtghomncegjamfaaGreatMcod
namespace Go.Proofs.YtghomncegjamfaaGreat

/-- These bytes lie at that place. -/
def At (S : ByteArray) (p : Nat) (t : ByteArray) : Prop := ints t <+: (ints S).drop p ∧ p ≤ S.size
theorem At.le {S t : ByteArray} {p : Nat} (h : At S p t) : p + t.size ≤ S.size := by
  have h1 := h.1.length_le
  have h2 := h.2
  rw [List.length_drop, ints_length, ints_length] at h1
  omega
theorem At.ext {S t : ByteArray} {p : Nat} (h : At S p t) : S.extract p (p + t.size) = t := by
  apply ints_inj
  rw [ints_extract, List.drop_take, Nat.add_sub_cancel_left]
  have := List.prefix_iff_eq_take.1 h.1
  rw [ints_length] at this
  exact this.symm
theorem At.of_ext {S : ByteArray} {p n : Nat} (h : p + n ≤ S.size) : At S p (S.extract p (p + n)) := by
  refine ⟨?_, by omega⟩
  rw [ints_extract, List.drop_take]
  exact List.take_prefix _ _
theorem At.app {S a b : ByteArray} {p : Nat} : At S p (a ++ b) ↔ At S p a ∧ At S (p + a.size) b := by
  constructor
  · intro h
    have hl := h.le
    rw [ByteArray.size_append] at hl
    obtain ⟨⟨r, hr⟩, h2⟩ := h
    rw [ints_append] at hr
    refine ⟨⟨⟨ints b ++ r, by rw [← hr, List.append_assoc]⟩, h2⟩, ⟨r, ?_⟩, by omega⟩
    rw [← List.drop_drop, ← hr, List.append_assoc, ← ints_length a, List.drop_left]
  · rintro ⟨⟨⟨r, hr⟩, h2⟩, ⟨⟨q, hq⟩, h3⟩⟩
    refine ⟨⟨q, ?_⟩, h2⟩
    rw [← List.drop_drop, ← hr, ← ints_length a, List.drop_left] at hq
    rw [ints_append, List.append_assoc, hq, hr]
theorem At.self (t : ByteArray) : At t 0 t := ⟨by rw [List.drop_zero]; exact List.prefix_refl _, Nat.zero_le _⟩
theorem At.nil {S : ByteArray} {p : Nat} (h : p ≤ S.size) : At S p ⟨#[]⟩ := ⟨List.nil_prefix, h⟩
theorem At.whole {S t : ByteArray} (h : At S 0 t) (hs : t.size = S.size) : S = t := by
  have h1 := h.ext
  rw [Nat.zero_add, hs, ByteArray.extract_zero_size] at h1
  exact h1

theorem tk_at {S t : ByteArray} {p n : Nat} (h : At S p t) (hn : t.size = n) : tkV S (p, 0) n = t ∧ tkS S (p, 0) n = (p + n, 0) := by
  subst hn
  obtain ⟨h1, h2⟩ := tk_yes (S := S) (x := (p, 0)) (n := t.size) rfl h.le
  exact ⟨h1.trans h.ext, h2⟩
theorem tk_back {S : ByteArray} {x : RS} {n : Nat} (h : (tkS S x n).2 = 0) : x.2 = 0 ∧ (tkV S x n).size = n ∧ At S x.1 (tkV S x n) ∧ tkS S x n = (x.1 + n, 0) := by
  by_cases h0 : x.2 = 0
  · by_cases h1 : x.1 + n ≤ S.size
    · obtain ⟨h2, h3⟩ := tk_yes h0 h1
      rw [h2]
      exact ⟨h0, by rw [ByteArray.size_extract]; omega, At.of_ext h1, h3⟩
    · rw [(tk_short h0 h1).2] at h; exact absurd h (by simp)
  · rw [(tk_bad (S := S) (n := n) h0).2] at h; exact absurd h h0
theorem ha_at {S t : ByteArray} {p : Nat} (h : At S p t) (hs : t.size = 16) : haV S (p, 0) = t ∧ haS S (p, 0) = (p + 16, 0) := tk_at h hs
theorem ha_back {S : ByteArray} {x : RS} (h : (haS S x).2 = 0) : x.2 = 0 ∧ (haV S x).size = 16 ∧ At S x.1 (haV S x) ∧ haS S x = (x.1 + 16, 0) := tk_back h
theorem head_oneB {n : Int} (hn : 0 ≤ n ∧ n ≤ 255) : head (oneB n) = n := by
  have : n % 256 = n := by omega
  unfold head oneB
  rw [ints_str _ (by intro x hx; rw [List.mem_singleton.1 hx]; omega), this]
  rfl
theorem oneB_head {s : ByteArray} (h : s.size = 1) : oneB (head s) = s := by
  apply ints_inj
  have h1 := head_range s
  have h2 : head s % 256 = head s := by omega
  unfold oneB
  rw [ints_str _ (by intro x hx; rw [List.mem_singleton.1 hx]; omega), h2]
  have h3 := ints_length s
  unfold head
  match hl : ints s with
  | [] => rw [hl] at h3; simp at h3; omega
  | [a] => rfl
  | a :: b :: l => rw [hl] at h3; simp at h3; omega
theorem by_at {S : ByteArray} {p : Nat} {n : Int} (h : At S p (oneB n)) (hn : 0 ≤ n ∧ n ≤ 255) : byV S (p, 0) = n ∧ byS S (p, 0) = (p + 1, 0) := by
  obtain ⟨h1, h2⟩ := tk_at h (oneB_size n)
  exact ⟨by unfold byV; rw [h1]; exact head_oneB hn, h2⟩
theorem by_back {S : ByteArray} {x : RS} (h : (byS S x).2 = 0) : x.2 = 0 ∧ At S x.1 (oneB (byV S x)) ∧ byS S x = (x.1 + 1, 0) := by
  obtain ⟨h0, h1, h2, h3⟩ := tk_back h
  exact ⟨h0, by unfold byV; rw [oneB_head h1]; exact h2, h3⟩
theorem getV_put {n : Int} (hn : 0 ≤ n ∧ n ≤ 18446744073709551615) : getV (putS n) = n := by
  unfold getV
  rw [if_neg (by rw [putS_size]; omega)]
  have : ints (putS n) = putL n := ints_str _ (putL_range n)
  simp only [getP, this, putL, List.getD_cons_zero, List.getD_cons_succ]
  omega
theorem put_getV {s : ByteArray} (h : s.size = 8) : putS (getV s) = s := by
  apply ints_inj
  unfold putS getV
  rw [ints_str _ (putL_range _), if_neg (by omega)]
  have h3 := ints_length s
  have hr : ∀ x ∈ ints s, 0 ≤ x ∧ x ≤ 255 := fun x hx => ints_range hx
  match hl : ints s with
  | [] => rw [hl] at h3; simp at h3; omega
  | [_] => rw [hl] at h3; simp at h3; omega
  | [_, _] => rw [hl] at h3; simp at h3; omega
  | [_, _, _] => rw [hl] at h3; simp at h3; omega
  | [_, _, _, _] => rw [hl] at h3; simp at h3; omega
  | [_, _, _, _, _] => rw [hl] at h3; simp at h3; omega
  | [_, _, _, _, _, _] => rw [hl] at h3; simp at h3; omega
  | [_, _, _, _, _, _, _] => rw [hl] at h3; simp at h3; omega
  | [a, b, c, d, e, f, g, k] =>
    rw [hl] at hr
    simp only [List.mem_cons, List.not_mem_nil, or_false, forall_eq_or_imp, forall_eq] at hr
    obtain ⟨ha, hb, hc, hd, he, hf, hg, hk⟩ := hr
    simp only [getP, hl, putL, List.getD_cons_zero, List.getD_cons_succ]
    simp only [List.cons.injEq, and_true]
    omega
  | _ :: _ :: _ :: _ :: _ :: _ :: _ :: _ :: _ :: l => rw [hl] at h3; simp at h3; omega
theorem nu_at {S : ByteArray} {p : Nat} {n : Int} (h : At S p (putS n)) (hn : 0 ≤ n ∧ n ≤ 18446744073709551615) : nuV S (p, 0) = n ∧ nuS S (p, 0) = (p + 8, 0) := by
  obtain ⟨h1, h2⟩ := tk_at h (putS_size n)
  exact ⟨by unfold nuV; rw [h1]; exact getV_put hn, h2⟩
theorem nu_back {S : ByteArray} {x : RS} (h : (nuS S x).2 = 0) : x.2 = 0 ∧ At S x.1 (putS (nuV S x)) ∧ nuS S x = (x.1 + 8, 0) := by
  obtain ⟨h0, h1, h2, h3⟩ := tk_back h
  exact ⟨h0, by unfold nuV; rw [put_getV h1]; exact h2, h3⟩
/-- A length in two bytes. -/
def lenB (n : Nat) : ByteArray := strOfNums [(n : Int) / 256 % 256, (n : Int) % 256]
theorem lenB_size (n : Nat) : (lenB n).size = 2 := by unfold lenB; rw [strOfNums_size]; rfl
theorem partS_eq' (t : ByteArray) : partS t = lenB t.size ++ t := rfl
theorem two_lenB {n : Nat} (h : n ≤ 65535) : two (lenB n) = n := by
  have : ints (lenB n) = [(n : Int) / 256 % 256, (n : Int) % 256] := ints_str _ (by intro x hx; simp only [List.mem_cons, List.not_mem_nil, or_false] at hx; omega)
  unfold two
  rw [this]
  simp only [List.getD_cons_zero, List.getD_cons_succ]
  omega
theorem lenB_two {s : ByteArray} (h : s.size = 2) : lenB (two s).toNat = s := by
  apply ints_inj
  unfold lenB
  have h3 := ints_length s
  have hr : ∀ x ∈ ints s, 0 ≤ x ∧ x ≤ 255 := fun x hx => ints_range hx
  rw [ints_str _ (by intro x hx; simp only [List.mem_cons, List.not_mem_nil, or_false] at hx; omega)]
  unfold two
  match hl : ints s with
  | [] => rw [hl] at h3; simp at h3; omega
  | [_] => rw [hl] at h3; simp at h3; omega
  | [a, b] =>
    rw [hl] at hr
    simp only [List.mem_cons, List.not_mem_nil, or_false, forall_eq_or_imp, forall_eq] at hr
    simp only [List.getD_cons_zero, List.getD_cons_succ, List.cons.injEq, and_true]
    omega
  | _ :: _ :: _ :: l => rw [hl] at h3; simp at h3; omega
theorem bl_at {S t : ByteArray} {p : Nat} {m : Int} (h : At S p (partS t)) (hm : t.size ≤ m) (hs : t.size ≤ 4096) : blV S (p, 0) m = t ∧ blS S (p, 0) m = (p + (2 + t.size), 0) := by
  rw [partS_eq', At.app, lenB_size] at h
  obtain ⟨h1, h2⟩ := tk_at h.1 (lenB_size _)
  have hl : lenV S (p, 0) = t.size := by unfold lenV; rw [h1, two_lenB (by omega)]; rfl
  have hT : blT S (p, 0) m = (p + 2, 0) := by unfold blT; rw [hl, if_neg (by omega), h2]
  obtain ⟨h3, h4⟩ := tk_at h.2 rfl
  unfold blV blS
  rw [hT, hl, h2, h3, h4]
  exact ⟨rfl, by simp [Nat.add_assoc]⟩
theorem blT_back {S : ByteArray} {x : RS} {m : Int} (h : (blT S x m).2 = 0) : (tkS S x 2).2 = 0 ∧ (lenV S x : Int) ≤ m ∧ lenV S x ≤ 4096 ∧ blT S x m = tkS S x 2 := by
  unfold blT at h ⊢
  by_cases h1 : m < lenV S x ∨ 4096 < lenV S x
  · rw [if_pos h1] at h
    unfold failE at h
    simp only at h
    split at h
    · exact absurd h (by decide)
    · contradiction
  · rw [if_neg h1] at h ⊢
    exact ⟨h, by omega, by omega, rfl⟩
theorem bl_back {S : ByteArray} {x : RS} {m : Int} (h : (blS S x m).2 = 0) : x.2 = 0 ∧ ((blV S x m).size : Int) ≤ m ∧ (blV S x m).size ≤ 4096 ∧ At S x.1 (partS (blV S x m)) ∧ blS S x m = (x.1 + (2 + (blV S x m).size), 0) := by
  unfold blS at h
  by_cases h0 : (tkS S x 2).2 = 0
  · rw [if_pos h0] at h
    have h1 : (tkS S (blT S x m) (lenV S x)).2 = 0 := by
      by_cases h1 : (tkS S (blT S x m) (lenV S x)).2 = 0
      · exact h1
      · rw [if_neg h1] at h; exact absurd h h1
    obtain ⟨a1, a2, a3, a4⟩ := tk_back h1
    obtain ⟨b1, b2, b3, b4⟩ := blT_back a1
    obtain ⟨c1, c2, c3, c4⟩ := tk_back b1
    have hV : blV S x m = tkV S (blT S x m) (lenV S x) := by unfold blV; rw [if_pos h0]
    have hS : blS S x m = (x.1 + 2 + lenV S x, 0) := by unfold blS; rw [if_pos h0, if_pos h1, a4, b4, c4]
    rw [hV, hS, a2]
    refine ⟨c1, b2, b3, ?_, by rw [Nat.add_assoc]⟩
    rw [partS_eq', At.app, a2, lenB_size]
    refine ⟨?_, ?_⟩
    · have := c3
      rw [← lenB_two c2] at this
      exact this
    · rw [b4, c4] at a3 ⊢
      exact a3
  · rw [if_neg h0] at h; exact absurd h h0

/-! ### One behind the other -/
def catB : List ByteArray → ByteArray
  | [] => ⟨#[]⟩
  | a :: l => a ++ catB l
theorem catB_append : ∀ (l m : List ByteArray), catB (l ++ m) = catB l ++ catB m
  | [], m => by show catB m = ⟨#[]⟩ ++ catB m; exact ByteArray.empty_append.symm
  | a :: l, m => by show a ++ catB (l ++ m) = (a ++ catB l) ++ catB m; rw [catB_append l m, ByteArray.append_assoc]
end Go.Proofs.YtghomncegjamfaaGreat
