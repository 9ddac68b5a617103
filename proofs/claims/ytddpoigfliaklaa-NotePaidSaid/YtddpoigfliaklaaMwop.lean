/- Plain law of what was paid (NotePaid): the tickets that a client signs one behind the other, those that win, what all is worth. No program in sight. -/
import Derived.Test.YtddpoigfliaklaaMwot
namespace Go.Proofs.Ytddpoigfliaklaa
open Go.RowKit

def str8Sl : ByteArray := ⟨#[115, 97, 108, 116]⟩
def pdM (b : Int) : Int := 1 + b % 20
def pdN (b d : Int) : Int := d % (pdM b + 1)
def pdD (b : Int) (i : Nat) : Int := (b + 7 * i) % 18446744073709551616 % pdM b
def pdC (c d : Int) (i : Nat) : Int := if i = 0 then c else d
def pdI (b c d : Int) (i : Nat) : Bool := winsB (pdD b i) (pdC c d i) (pdN b d) (pdM b)
def pdT (b c d : Int) (i : Nat) : Tk := ⟨str8Ch, i, c % 1000, pdN b d, pdM b, commitS str8Sl (pdD b i), pdC c d i, ⟨#[]⟩⟩
def pdS (seed : ByteArray) (b c d : Int) (i : Nat) : ByteArray := signK seed 2 (i + 1) (tkText (pdT b c d i))
def pdW (seed : ByteArray) (b c d : Int) (i : Nat) : Wn := ⟨⟨str8Ch, i, c % 1000, pdN b d, pdM b, commitS str8Sl (pdD b i), pdC c d i, pdS seed b c d i⟩, str8Sl, pdD b i⟩
def pdL (seed : ByteArray) (b c d : Int) : Nat → List Wn
  | 0 => []
  | n + 1 => if pdI b c d n = true then pdL seed b c d n ++ [pdW seed b c d n] else pdL seed b c d n
def sumF (l : List Wn) : Int := (l.map (·.t.face)).sum
structure PdIn (b c d : Int) : Prop where
  b : fits .u64 b
  c : fits .u64 c
  d : fits .u64 d
section
variable {seed : ByteArray} {b c d : Int}
theorem pdW_giv (i : Nat) : pdW seed b c d i = giv seed str8Ch str8Sl (i + 1) i (c % 1000) (pdN b d) (pdM b) (pdC c d i) (pdD b i) := rfl
theorem pdM_range (h : 0 ≤ b) : 1 ≤ pdM b ∧ pdM b ≤ 20 := by unfold pdM; omega
theorem pd_E (h : PdIn b c d) (i : Nat) : winsE (pdD b i) (pdN b d) (pdM b) = 0 := by
  obtain ⟨⟨h1, _⟩, _, _⟩ := h
  have hm := pdM_range h1
  have hn := Int.emod_lt_of_pos d (show 0 < pdM b + 1 by omega)
  have hd := Int.emod_lt_of_pos ((b + 7 * i) % 18446744073709551616) (show 0 < pdM b by omega)
  unfold winsE
  rw [if_pos]
  unfold pdN pdD
  omega
theorem pd_may (i : Nat) (hi : i < 3) : wnMay (pdW seed b c d i) = true := by
  rw [pdW_giv]
  exact giv_may seed str8Sl (by omega) rfl (by decide) _ _ _ _ _ _
theorem pd_won (h : PdIn b c d) (i : Nat) (hi : i < 3) : wonE (rootK seed 2) (pdW seed b c d i) = if pdI b c d i = true then 0 else 13 := by
  rw [pdW_giv]
  exact giv_won seed str8Sl (by omega) rfl (by decide) (pd_E h i)
theorem pd_wonV (h : PdIn b c d) (i : Nat) (hi : i < 3) : wonV (rootK seed 2) (pdW seed b c d i) = if pdI b c d i = true then c % 1000 else 0 := by
  unfold wonV
  rw [pd_won h i hi]
  cases pdI b c d i <;> rfl
theorem pd_mem {x : Wn} : ∀ {n : Nat}, x ∈ pdL seed b c d n → ∃ i, i < n ∧ x = pdW seed b c d i ∧ pdI b c d i = true
  | 0, h => by cases h
  | n + 1, h => by
    unfold pdL at h
    by_cases e : pdI b c d n = true
    · rw [if_pos e] at h
      rcases List.mem_append.1 h with h | h
      · obtain ⟨i, h1, h2⟩ := pd_mem h
        exact ⟨i, by omega, h2⟩
      · exact ⟨n, by omega, List.mem_singleton.1 h, e⟩
    · rw [if_neg e] at h
      obtain ⟨i, h1, h2⟩ := pd_mem h
      exact ⟨i, by omega, h2⟩
theorem pd_len : ∀ n, (pdL seed b c d n).length ≤ n
  | 0 => Nat.le_refl _
  | n + 1 => by
    have h := pd_len n
    unfold pdL
    split
    · rw [List.length_append]; simp only [List.length_singleton]; omega
    · omega
theorem pd_yes {i : Nat} (h : pdI b c d i = true) : pdL seed b c d (i + 1) = pdL seed b c d i ++ [pdW seed b c d i] := by show (if _ then _ else _) = _; rw [if_pos h]
theorem pd_no {i : Nat} (h : pdI b c d i = false) : pdL seed b c d (i + 1) = pdL seed b c d i := by show (if _ then _ else _) = _; rw [if_neg (by rw [h]; decide)]
theorem sumF_snoc (l : List Wn) (x : Wn) : sumF (l ++ [x]) = sumF l + x.t.face := by
  unfold sumF; rw [List.map_append, List.sum_append]; simp
theorem sumF_nil : sumF [] = 0 := rfl
theorem sumF_0 : sumF (pdL seed b c d 0) = 0 := rfl
theorem pd_sum (hc : 0 ≤ c) : ∀ n : Nat, 0 ≤ sumF (pdL seed b c d n) ∧ sumF (pdL seed b c d n) ≤ 999 * n
  | 0 => ⟨Int.le_refl _, Int.le_refl _⟩
  | n + 1 => by
    have h := pd_sum hc n
    have h1 : 0 ≤ c % 1000 ∧ c % 1000 ≤ 999 := by omega
    unfold pdL
    split
    · rw [sumF_snoc]
      show 0 ≤ _ + c % 1000 ∧ _ + c % 1000 ≤ _
      omega
    · omega
theorem pd_nodup : ∀ n, ((pdL seed b c d n).map (·.t.serial)).Nodup
  | 0 => List.nodup_nil
  | n + 1 => by
    have h := pd_nodup n
    unfold pdL
    split
    · rw [List.map_append, List.nodup_append]
      refine ⟨h, by simp, ?_⟩
      intro x hx y hy
      obtain ⟨z, hz, rfl⟩ := List.mem_map.1 hx
      obtain ⟨i, h1, h2, _⟩ := pd_mem hz
      simp only [List.map_cons, List.map_nil, List.mem_singleton] at hy
      subst hy h2
      show (i : Int) ≠ (n : Int)
      omega
    · exact h
theorem pd_fit (h : PdIn b c d) (i : Nat) (hi : i < 3) : (pdW seed b c d i).Fit := by
  obtain ⟨⟨h1, h1'⟩, ⟨h2, h2'⟩, ⟨h3, h3'⟩⟩ := h
  have hm := pdM_range h1
  have n0 := Int.emod_nonneg d (show pdM b + 1 ≠ 0 by omega)
  have hn := Int.emod_lt_of_pos d (show 0 < pdM b + 1 by omega)
  have d0 := Int.emod_nonneg ((b + 7 * i) % 18446744073709551616) (show pdM b ≠ 0 by omega)
  have hd := Int.emod_lt_of_pos ((b + 7 * i) % 18446744073709551616) (show 0 < pdM b by omega)
  refine ⟨⟨?_, ?_, ?_, ?_, ?_⟩, ?_⟩
  · show fits .u64 (i : Int); simp only [fits]; omega
  · show fits .u64 (c % 1000); simp only [fits]; omega
  · show fits .u64 (d % (pdM b + 1)); simp only [fits]; omega
  · show fits .u64 (pdM b); simp only [fits]; omega
  · show fits .u64 (pdC c d i); unfold pdC; split
    · exact ⟨h2, h2'⟩
    · exact ⟨h3, h3'⟩
  · show fits .u64 ((b + 7 * i) % 18446744073709551616 % pdM b); simp only [fits]; omega
theorem pdL_fit (h : PdIn b c d) : ∀ x ∈ pdL seed b c d 2, x.Fit := fun x hx => by
  obtain ⟨i, h1, rfl, _⟩ := pd_mem hx
  exact pd_fit h i (by omega)
/-- The terms, and the proof with a token and wins. -/
def pdTm (seed : ByteArray) (u : Int) : Tm := ⟨str8Ch, rootK seed 2, tokS str8Tks 9 0, u, 9⟩
def pdP (seed : ByteArray) (a : Int) (tk : ByteArray) (l : List Wn) : Pf := ⟨a, signK seed 2 0 (vouch str8Ch a), tk, l⟩
attribute [local irreducible] signK rootK tokS vouch pdL cntV cntE in
theorem pd_worth {t : Tm} {p : Pf} {a u : Int} {l : List Wn} {n : Nat} (ht : t = pdTm seed u) (h : PdIn b c d) (ha : 0 < a ∧ a ≤ 4294967296) (hl : l = pdL seed b c d n) (hn : n ≤ 2) (hp : p = pdP seed a p.token l)
    (hT : p.token = ⟨#[]⟩ ∨ p.token.size = 16) (hE : tokensE t p = 0) (hv : 0 ≤ tokensV t p ∧ tokensV t p ≤ 100000) : worthE t p = 0 ∧ worthV t p = a + tokensV t p + sumF l := by
  subst ht hl
  have hw : p.wins = pdL seed b c d n := by rw [hp]; rfl
  have ha2 : p.amount = a := by rw [hp]; rfl
  have hs := pd_sum (seed := seed) (b := b) (d := d) h.c.1 n
  have hlen := pd_len (seed := seed) (b := b) (c := c) (d := d) n
  have g := given (t := pdTm seed u) (p := p) (seed := seed) (a := a) rfl ha.1 ha2 (by rw [hp]; rfl) (fun x hx => by
      rw [hw] at hx
      obtain ⟨i, h1, rfl, _⟩ := pd_mem hx
      exact pd_may i (by omega)) (by rw [hw]; omega) hT hE (by
      rw [facesE_iff, hw]
      refine ⟨fun x hx => ?_, pd_nodup n⟩
      obtain ⟨i, h1, rfl, h2⟩ := pd_mem hx
      refine ⟨rfl, ?_⟩
      show wonE (rootK seed 2) _ = 0
      rw [pd_won h i (by omega), if_pos h2]) (by
      rw [partsA_sum, hw, ha2]
      show sumF _ + _ < _
      omega)
  refine ⟨g.1, ?_⟩
  rw [g.2, hw]
  show sumF _ + _ = _
  omega
structure WorthIs (t : Tm) (p : Pf) (v : Int) : Prop where
  e : worthE t p = 0
  v : worthV t p = v
theorem WorthIs.of {t : Tm} {p : Pf} {v x y f : Int} (h : worthE t p = 0 ∧ worthV t p = x + y + f) (e : x + y + f = v) : WorthIs t p v := ⟨h.1, h.2.trans e⟩
theorem pd_tok {u : Int} (p : Pf) {i : Nat} (hi : i ≤ 9) (hu : 1 ≤ u ∧ u ≤ 100) (hp : p.token = tokS str8Tks 9 i) : tokensE (pdTm seed u) p = 0 ∧ tokensV (pdTm seed u) p = cntV (tokS str8Tks 9 0) (tokS str8Tks 9 i) 9 * u ∧ 0 ≤ tokensV (pdTm seed u) p ∧ tokensV (pdTm seed u) p ≤ 100000 := by
  have hc := cnt_tok str8Tks (n := 9) (i := i) (m := 9) hi (by omega) (by decide)
  have hne : tokS str8Tks 9 i ≠ ⟨#[]⟩ := fun e => by
    have := tokS_size str8Tks 9 i
    rw [e] at this
    exact absurd this (by decide)
  have hv := val_pos (n := cntV (tokS str8Tks 9 0) (tokS str8Tks 9 i) 9) (u := u) (by omega)
  have m0 : 0 ≤ cntV (tokS str8Tks 9 0) (tokS str8Tks 9 i) 9 * u := Int.mul_nonneg hc.2.1 (by omega)
  have m1 : cntV (tokS str8Tks 9 0) (tokS str8Tks 9 i) 9 * u ≤ 9 * 100 := Int.mul_le_mul (by omega) hu.2 (by omega) (by decide)
  have e1 : tokensV (pdTm seed u) p = cntV (tokS str8Tks 9 0) (tokS str8Tks 9 i) 9 * u := by
    unfold tokensV
    rw [hp, if_neg hne]
    show (if cntE (tokS str8Tks 9 0) (tokS str8Tks 9 i) 9 = 0 then valV _ u else 0) = _
    rw [if_pos hc.1]
    show valV (cntV (tokS str8Tks 9 0) (tokS str8Tks 9 i) 9) u = _
    rw [hv.1]
    rcases mul_cases (cntV (tokS str8Tks 9 0) (tokS str8Tks 9 i) 9) u with e | e
    · omega
    · exact e.2.1
  refine ⟨?_, e1, by omega, by omega⟩
  unfold tokensE
  rw [hp, if_neg hne]
  show (if cntE (tokS str8Tks 9 0) (tokS str8Tks 9 i) 9 = 0 then valE _ u else _) = _
  rw [if_pos hc.1]
  show valE (cntV (tokS str8Tks 9 0) (tokS str8Tks 9 i) 9) u = _
  rw [hv.2]
  rcases mul_cases (cntV (tokS str8Tks 9 0) (tokS str8Tks 9 i) 9) u with e | e
  · omega
  · exact e.2.2
theorem pd_bare {u : Int} (p : Pf) (hp : p.token = ⟨#[]⟩) : tokensE (pdTm seed u) p = 0 ∧ tokensV (pdTm seed u) p = 0 := by
  unfold tokensE tokensV; rw [if_pos hp, if_pos hp]; exact ⟨rfl, rfl⟩
end
end Go.Proofs.Ytddpoigfliaklaa
