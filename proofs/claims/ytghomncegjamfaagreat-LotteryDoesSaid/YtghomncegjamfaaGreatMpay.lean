/- Plain mathematics of tokens that lead to an anchor: no program in sight. -/
import Derived.Test.YtghomncegjamfaaGreatMnum
namespace Go.Proofs.YtghomncegjamfaaGreat

def strPayword : ByteArray := ⟨#[112, 97, 121, 119, 111, 114, 100]⟩
def strSeeded : ByteArray := ⟨#[115, 101, 101, 100]⟩
def nextS (t : ByteArray) : ByteArray := tagS strPayword [t]
theorem nextS_size (t : ByteArray) : (nextS t).size = 16 := tagS_size _ _
def farN (t : ByteArray) : Nat → ByteArray
  | 0 => t
  | k + 1 => nextS (farN t k)
theorem farN_size {t : ByteArray} (h : t.size = 16) : ∀ k, (farN t k).size = 16
  | 0 => h
  | _ + 1 => nextS_size _
theorem farN_add (t : ByteArray) (j : Nat) : ∀ k, farN t (j + k) = farN (farN t j) k
  | 0 => rfl
  | k + 1 => by rw [← Nat.add_assoc, farN, farN_add t j k, farN]
def farS (t : ByteArray) (n : Int) : ByteArray := if t.size = 16 ∧ 0 ≤ n ∧ n ≤ 4096 then farN t n.toNat else ⟨#[]⟩
theorem farS_pos {t : ByteArray} {n : Int} (h : t.size = 16 ∧ 0 ≤ n ∧ n ≤ 4096) : farS t n = farN t n.toNat := by unfold farS; rw [if_pos h]
theorem farS_neg {t : ByteArray} {n : Int} (h : ¬ (t.size = 16 ∧ 0 ≤ n ∧ n ≤ 4096)) : farS t n = ⟨#[]⟩ := by unfold farS; rw [if_neg h]
theorem farS_nat {t : ByteArray} (k : Nat) (h : t.size = 16) (hk : k ≤ 4096) : farS t k = farN t k := by rw [farS_pos ⟨h, by omega, by omega⟩]; simp
def seedT (seed : ByteArray) : ByteArray := tagS strSeeded [seed]
theorem seedT_size (seed : ByteArray) : (seedT seed).size = 16 := tagS_size _ _
/-- The token i of a chain of n. -/
def tokS (seed : ByteArray) (n i : Nat) : ByteArray := farN (seedT seed) (n - i)
theorem tokS_size (seed : ByteArray) (n i : Nat) : (tokS seed n i).size = 16 := farN_size (seedT_size seed) _
theorem tok_far (seed : ByteArray) {n i j : Nat} (h : i ≤ n) (hj : j ≤ i) : farN (tokS seed n i) j = tokS seed n (i - j) := by
  unfold tokS; rw [← farN_add]; congr 1; omega
theorem tok_last (seed : ByteArray) (n : Nat) : tokS seed n n = seedT seed := by unfold tokS; rw [Nat.sub_self]; rfl
theorem tok_next (seed : ByteArray) {n i : Nat} (h : i + 1 ≤ n) : nextS (tokS seed n (i + 1)) = tokS seed n i := by
  have := tok_far seed h (show 1 ≤ i + 1 by omega)
  simpa [farN] using this
theorem tok_prev (seed : ByteArray) {n s : Nat} (h1 : 1 ≤ s) (h : s ≤ n) : nextS (tokS seed n s) = tokS seed n (s - 1) := by
  obtain ⟨i, rfl⟩ : ∃ i, s = i + 1 := ⟨s - 1, by omega⟩
  exact tok_next seed h
theorem tok_more (seed : ByteArray) (n m i : Nat) (h : i ≤ n) : tokS seed (n + m) (i + m) = tokS seed n i := by
  unfold tokS; congr 1; omega
/-- All tokens. -/
def toks (seed : ByteArray) (n : Nat) : List ByteArray := (List.range (n + 1)).map (tokS seed n)
theorem toks_length (seed : ByteArray) (n : Nat) : (toks seed n).length = n + 1 := by simp [toks]
theorem toks_get (seed : ByteArray) {n i : Nat} (h : i ≤ n) : (toks seed n)[i]? = some (tokS seed n i) := by
  unfold toks; rw [List.getElem?_map, List.getElem?_range (by omega)]; rfl
/-- The row while it is made: the last i tokens are there. -/
def tokP (seed : ByteArray) (n i : Nat) : List ByteArray := (List.range (n + 1)).map fun j => if n < j + i then tokS seed n j else ⟨#[]⟩
theorem tokP_length (seed : ByteArray) (n i : Nat) : (tokP seed n i).length = n + 1 := by simp [tokP]
theorem tokP_zero (seed : ByteArray) (n : Nat) : tokP seed n 0 = List.replicate (n + 1) ⟨#[]⟩ := by
  unfold tokP
  rw [List.eq_replicate_iff]
  refine ⟨by simp, fun b hb => ?_⟩
  obtain ⟨j, hj, rfl⟩ := List.mem_map.1 hb
  rw [if_neg (by have := List.mem_range.1 hj; omega)]
theorem tokP_set (seed : ByteArray) {n i : Nat} (h : i ≤ n) : (tokP seed n i).set (n - i) (farN (seedT seed) i) = tokP seed n (i + 1) := by
  apply List.ext_getElem?
  intro j
  rw [List.getElem?_set]
  unfold tokP
  by_cases hj : j < n + 1
  · by_cases he : n - i = j
    · subst he
      rw [if_pos rfl, if_pos (by rw [List.length_map, List.length_range]; exact hj), List.getElem?_map, List.getElem?_range hj]
      simp only [Option.map_some]
      rw [if_pos (by omega)]
      unfold tokS
      rw [show n - (n - i) = i by omega]
    · rw [if_neg he, List.getElem?_map, List.getElem?_map, List.getElem?_range hj]
      simp only [Option.map_some]
      by_cases h1 : n < j + i
      · rw [if_pos h1, if_pos (by omega)]
      · rw [if_neg h1, if_neg (by omega)]
  · rw [if_neg (by omega), List.getElem?_eq_none (by simp; omega), List.getElem?_eq_none (by simp; omega)]
theorem tokP_end (seed : ByteArray) (n : Nat) : tokP seed n (n + 1) = toks seed n := by
  unfold tokP toks
  apply List.map_congr_left
  intro j hj
  rw [if_pos (by omega)]

/-! ### How many steps -/
def hit (a t : ByteArray) : Nat → Bool
  | 0 => false
  | k + 1 => hit a t k || decide (farN t k = a)
def fst (a t : ByteArray) : Nat → Nat
  | 0 => 0
  | k + 1 => if hit a t k then fst a t k else k
theorem hit_of {a t : ByteArray} {k : Nat} (hk : farN t k = a) : ∀ m, k < m → hit a t m = true ∧ fst a t m ≤ k
  | 0, h => by omega
  | m + 1, h => by
    unfold hit fst
    by_cases hm : k < m
    · have := hit_of hk m hm
      simp [this.1, this.2]
    · have : k = m := by omega
      subst this
      refine ⟨by simp [hk], ?_⟩
      split
      · rename_i h2
        have : ∀ m, hit a t m = true → fst a t m < m := by
          intro m
          induction m with
          | zero => intro h; cases h
          | succ m ih =>
            intro h
            unfold fst
            split
            · rename_i h3; have := ih h3; omega
            · omega
        have := this _ h2
        omega
      · omega
theorem fst_lt (a t : ByteArray) : ∀ m, hit a t m = true → fst a t m < m
  | 0, h => by cases h
  | m + 1, h => by
    unfold fst
    split
    · rename_i h2; have := fst_lt a t m h2; omega
    · omega
theorem fst_hit (a t : ByteArray) : ∀ m, hit a t m = true → farN t (fst a t m) = a
  | 0, h => by cases h
  | m + 1, h => by
    unfold fst
    unfold hit at h
    split
    · rename_i h2; exact fst_hit a t m h2
    · rename_i h2
      simp only [Bool.not_eq_true] at h2
      rw [h2] at h
      simpa using h
theorem hit_none {a t : ByteArray} : ∀ m, hit a t m = false → ∀ k, k < m → farN t k ≠ a := fun m h k hk e => by
  have := (hit_of e m hk).1
  rw [h] at this
  cases this
theorem fst_least {a t : ByteArray} {m : Nat} (h : hit a t m = true) {i : Nat} (hi : i < fst a t m) : farN t i ≠ a := fun e => by
  have h1 := fst_lt a t m h
  have := (hit_of e m (by omega)).2
  omega
theorem hit_first {a t : ByteArray} {i m : Nat} (h : hit a t i = false) (he : farN t i = a) (hm : i < m) : hit a t m = true ∧ fst a t m = i := by
  have h1 := hit_of he m hm
  refine ⟨h1.1, ?_⟩
  have h2 := fst_hit a t m h1.1
  have h3 := hit_none i h (fst a t m)
  have := h1.2
  rcases Nat.lt_or_ge (fst a t m) i with h4 | h4
  · exact absurd h2 (h3 h4)
  · omega
abbrev cntOk (a t : ByteArray) (m : Int) : Prop := a.size = 16 ∧ t.size = 16 ∧ 0 ≤ m ∧ m ≤ 4096
def cntV (a t : ByteArray) (m : Int) : Int := if cntOk a t m then (if hit a t (m.toNat + 1) then (fst a t (m.toNat + 1) : Nat) else 0) else 0
def cntE (a t : ByteArray) (m : Int) : Int := if cntOk a t m then (if hit a t (m.toNat + 1) then 0 else 4) else 1
theorem cnt_bad {a t : ByteArray} {m : Int} (h : ¬ (a.size = 16 ∧ t.size = 16 ∧ 0 ≤ m ∧ m ≤ 4096)) : cntV a t m = 0 ∧ cntE a t m = 1 := by
  unfold cntV cntE; rw [if_neg h, if_neg h]; exact ⟨rfl, rfl⟩
theorem cnt_hit {a t : ByteArray} {m : Int} (h : a.size = 16 ∧ t.size = 16 ∧ 0 ≤ m ∧ m ≤ 4096) (h2 : hit a t (m.toNat + 1) = true) : cntV a t m = (fst a t (m.toNat + 1) : Nat) ∧ cntE a t m = 0 := by
  unfold cntV cntE; rw [if_pos h, if_pos h, if_pos h2, if_pos h2]; exact ⟨rfl, rfl⟩
theorem cnt_none {a t : ByteArray} {m : Int} (h : a.size = 16 ∧ t.size = 16 ∧ 0 ≤ m ∧ m ≤ 4096) (h2 : hit a t (m.toNat + 1) = false) : cntV a t m = 0 ∧ cntE a t m = 4 := by
  unfold cntV cntE; rw [if_pos h, if_pos h, h2]; exact ⟨rfl, rfl⟩
theorem cnt_first {a t : ByteArray} {m : Int} {i : Nat} (h : a.size = 16 ∧ t.size = 16 ∧ 0 ≤ m ∧ m ≤ 4096) (h1 : hit a t i = false) (he : farN t i = a) (hi : (i : Int) ≤ m) : cntV a t m = i ∧ cntE a t m = 0 := by
  have h2 := hit_first h1 he (show i < m.toNat + 1 by omega)
  have h3 := cnt_hit h h2.1
  rw [h2.2] at h3
  exact h3
theorem cntV_range (a t : ByteArray) (m : Int) (hm : 0 ≤ m) : 0 ≤ cntV a t m ∧ cntV a t m ≤ m ∧ cntV a t m ≤ 4096 := by
  unfold cntV
  split
  · rename_i h
    obtain ⟨_, _, h3, h4⟩ := h
    split
    · rename_i h2
      have := fst_lt a t _ h2
      omega
    · omega
  · omega
theorem cntV_range' (a t : ByteArray) (m : Int) : 0 ≤ cntV a t m ∧ cntV a t m ≤ 4096 := by
  unfold cntV
  split
  · rename_i h
    obtain ⟨_, _, h3, h4⟩ := h
    split
    · rename_i h2
      have := fst_lt a t _ h2
      omega
    · omega
  · omega
/-- How many steps a chain's token is from its anchor. -/
theorem cnt_tok (seed : ByteArray) {n i : Nat} {m : Int} (hi : i ≤ n) (hm : (i : Int) ≤ m) (hm2 : m ≤ 4096) : cntE (tokS seed n 0) (tokS seed n i) m = 0 ∧ 0 ≤ cntV (tokS seed n 0) (tokS seed n i) m ∧ cntV (tokS seed n 0) (tokS seed n i) m ≤ i := by
  have h1 : farN (tokS seed n i) i = tokS seed n 0 := by rw [tok_far seed hi (Nat.le_refl i), Nat.sub_self]
  have h2 := hit_of h1 (m.toNat + 1) (by omega)
  have h3 := cnt_hit ⟨tokS_size _ _ _, tokS_size _ _ _, by omega, hm2⟩ h2.1
  refine ⟨h3.2, ?_, ?_⟩
  · rw [h3.1]; omega
  · rw [h3.1]; have := h2.2; omega
/-- What Count tells of a first token: found, the least; or not. -/
theorem cnt_far {t : ByteArray} {k : Nat} {m : Int} (ht : t.size = 16) (hk : k ≤ 4096) (hm : 0 ≤ m) (hm2 : m ≤ 4096) : (cntE (farN t k) t m = 4 ∧ m < k) ∨
    (cntE (farN t k) t m = 0 ∧ 0 ≤ cntV (farN t k) t m ∧ cntV (farN t k) t m ≤ m ∧ cntV (farN t k) t m ≤ k ∧ farN t (cntV (farN t k) t m).toNat = farN t k ∧ ∀ i : Nat, (i : Int) < cntV (farN t k) t m → farN t i ≠ farN t k) := by
  have hok : (farN t k).size = 16 ∧ t.size = 16 ∧ 0 ≤ m ∧ m ≤ 4096 := ⟨farN_size ht k, ht, hm, hm2⟩
  cases h : hit (farN t k) t (m.toNat + 1) with
  | false =>
    refine .inl ⟨(cnt_none hok h).2, ?_⟩
    rcases Int.lt_or_le m k with h2 | h2
    · exact h2
    · exact absurd rfl (hit_none _ h k (by omega))
  | true =>
    have h1 := cnt_hit hok h
    refine .inr ⟨h1.2, ?_⟩
    rw [h1.1]
    have h2 := fst_lt _ _ _ h
    have h3 := fst_hit _ _ _ h
    refine ⟨by omega, by omega, ?_, by simpa using h3, fun i hi => fst_least h (by omega)⟩
    rcases Nat.lt_or_ge k (m.toNat + 1) with h4 | h4
    · have := (hit_of (rfl : farN t k = farN t k) _ h4).2; omega
    · omega
theorem hit_before {a t : ByteArray} : ∀ {i : Nat}, (∀ k, k < i → decide (farN t k = a) = false) → hit a t i = false
  | 0, _ => rfl
  | i + 1, h => by unfold hit; rw [hit_before fun k hk => h k (by omega), h i (by omega)]; rfl
theorem hit_all {a t : ByteArray} {i : Nat} (h : ∀ k, k < i → decide (farN t k = a) = false) (h2 : decide (farN t i = a) = false) : hit a t (i + 1) = false := by
  unfold hit; rw [hit_before h, h2]; rfl
theorem cnt_less {a t : ByteArray} {m n : Int} (ha : a.size = 16) (ht : t.size = 16) (h0 : 0 ≤ m) (h1 : m ≤ n) (h2 : n ≤ 4096) : cntE a t m = 4 ∨ cntV a t n ≤ m := by
  cases h : hit a t (m.toNat + 1) with
  | false => exact .inl (cnt_none ⟨ha, ht, h0, by omega⟩ h).2
  | true =>
    have h3 := fst_hit _ _ _ h
    have h4 := fst_lt _ _ _ h
    have h5 := hit_of h3 (n.toNat + 1) (by omega)
    rw [(cnt_hit ⟨ha, ht, by omega, h2⟩ h5.1).1]
    have := h5.2
    exact .inr (by omega)
def valV (n u : Int) : Int := if n < 0 then 0 else mulV n u
def valE (n u : Int) : Int := if n < 0 then 2 else mulE n u
theorem val_neg {n u : Int} (h : n < 0) : valV n u = 0 ∧ valE n u = 2 := by unfold valV valE; rw [if_pos h, if_pos h]; exact ⟨rfl, rfl⟩
theorem val_pos {n u : Int} (h : ¬ n < 0) : valV n u = mulV n u ∧ valE n u = mulE n u := by unfold valV valE; rw [if_neg h, if_neg h]; exact ⟨rfl, rfl⟩
theorem mul_cases (a b : Int) : (18446744073709551616 ≤ a * b ∧ mulV a b = 0 ∧ mulE a b = 2) ∨ (a * b < 18446744073709551616 ∧ mulV a b = a * b ∧ mulE a b = 0) := by
  unfold mulV mulE
  by_cases h : 18446744073709551616 ≤ a * b
  · exact .inl ⟨h, by rw [if_pos h], by rw [if_pos h]⟩
  · exact .inr ⟨by omega, by rw [if_neg h], by rw [if_neg h]⟩
theorem mulV_fits {a b : Int} (ha : 0 ≤ a) (hb : 0 ≤ b) : 0 ≤ mulV a b ∧ mulV a b ≤ 18446744073709551615 := by
  have := Int.mul_nonneg ha hb
  rcases mul_cases a b with h | h <;> omega
theorem valV_fits {n u : Int} (hu : 0 ≤ u) : 0 ≤ valV n u ∧ valV n u ≤ 18446744073709551615 := by
  by_cases h : n < 0
  · rw [(val_neg h).1]; omega
  · rw [(val_pos h).1]; exact mulV_fits (by omega) hu
theorem add_cases (a b : Int) : (18446744073709551616 ≤ a + b ∧ addV a b = 0 ∧ addE a b = 2) ∨ (a + b < 18446744073709551616 ∧ addV a b = a + b ∧ addE a b = 0) := by
  unfold addV addE
  by_cases h : 18446744073709551616 ≤ a + b
  · exact .inl ⟨h, by rw [if_pos h], by rw [if_pos h]⟩
  · exact .inr ⟨by omega, by rw [if_neg h], by rw [if_neg h]⟩
/-- Part by part. -/
theorem val_parts {n m u : Int} (hn : 0 ≤ n) (hm : 0 ≤ m) (hu : 0 ≤ u) :
    (valE n u = 0 → valE m u = 0 → addV (valV n u) (valV m u) = valV (n + m) u ∧ addE (valV n u) (valV m u) = valE (n + m) u) ∧ (valE (n + m) u = 0 → valE n u = 0 ∧ valE m u = 0) := by
  have e1 := val_pos (n := n) (u := u) (by omega)
  have e2 := val_pos (n := m) (u := u) (by omega)
  have e3 := val_pos (n := n + m) (u := u) (by omega)
  have hd : (n + m) * u = n * u + m * u := Int.add_mul n m u
  have p1 := Int.mul_nonneg hn hu
  have p2 := Int.mul_nonneg hm hu
  rw [e1.1, e1.2, e2.1, e2.2, e3.1, e3.2]
  rcases mul_cases n u with h1 | h1 <;> rcases mul_cases m u with h2 | h2 <;> rcases mul_cases (n + m) u with h3 | h3 <;> rcases add_cases (mulV n u) (mulV m u) with h4 | h4 <;> (refine ⟨fun a b => ⟨?_, ?_⟩, fun a => ⟨?_, ?_⟩⟩ <;> omega)
end Go.Proofs.YtghomncegjamfaaGreat
