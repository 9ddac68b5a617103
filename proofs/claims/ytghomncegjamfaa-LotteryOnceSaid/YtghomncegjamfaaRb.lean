/- The walks of package turnstileref02. Written by program (walk.py) out of a table of contracts and invariants. -/
import Derived.Test.YtghomncegjamfaaShb
import Derived.Test.YtghomncegjamfaaJg
namespace Go.Proofs.Ytghomncegjamfaa
open Go.RowKit
set_option maxRecDepth 100000
set_option linter.unusedVariables false
set_option linter.unusedSimpArgs false
attribute [local irreducible] Yields Makes Writes
def B8 (l : List Int) : Prop := ∀ i, 0 ≤ l.getD i 0 ∧ l.getD i 0 ≤ 255
theorem getD_range {l : List Int} (h : ∀ x ∈ l, 0 ≤ x ∧ x ≤ 255) : B8 l := fun i => by
  rw [List.getD_eq_getElem?_getD]
  cases h2 : l[i]? with
  | none => simp
  | some x => exact h x (List.mem_of_getElem? h2)
theorem be4_eq (l : List Int) (t : Nat) (h : B8 l) : (((l.getD (4 * t) 0 * 16777216 % 4294967296 + l.getD (4 * t + 1) 0 * 65536 % 4294967296) % 4294967296 + l.getD (4 * t + 2) 0 * 256 % 4294967296) % 4294967296 + l.getD (4 * t + 3) 0) % 4294967296 = be4 l t := by
  have h0 := h (4 * t); have h1 := h (4 * t + 1); have h2 := h (4 * t + 2); have h3 := h (4 * t + 3)
  unfold be4; omega


def W32 (x : Int) : Prop := 0 ≤ x ∧ x < 4294967296
structure S8ok (v : S8) : Prop where
  a : W32 v.a
  b : W32 v.b
  c : W32 v.c
  d : W32 v.d
  e : W32 v.e
  f : W32 v.f
  g : W32 v.g
  h : W32 v.h
theorem rnd_ok (k w : Int) {v : S8} (h : S8ok v) : S8ok (rnd k w v) :=
  ⟨by simp only [rnd, W32]; omega, h.a, h.b, h.c, by simp only [rnd, W32]; omega, h.e, h.f, h.g⟩
theorem rnds_ok (ws : List Int) {v : S8} (h : S8ok v) (t : Nat) : S8ok (rnds ws v t) := by
  induction t with
  | zero => exact h
  | succ t ih => exact rnd_ok _ _ ih
def Okst (l : List Int) : Prop := ∀ x ∈ l, W32 x
theorem Okst.s8 {x0 x1 x2 x3 x4 x5 x6 x7 : Int} (h : Okst [x0, x1, x2, x3, x4, x5, x6, x7]) : S8ok ⟨x0, x1, x2, x3, x4, x5, x6, x7⟩ :=
  ⟨h _ (by simp), h _ (by simp), h _ (by simp), h _ (by simp), h _ (by simp), h _ (by simp), h _ (by simp), h _ (by simp)⟩
theorem st0_ok : Okst st0 := by
  intro x hx
  simp only [st0, List.mem_cons, List.not_mem_nil, or_false] at hx
  unfold W32
  omega
theorem plus8_ok : ∀ (xs ys : List Int), Okst (plus8 xs ys)
  | x :: xs, y :: ys => by
    intro z hz
    simp only [plus8, List.mem_cons] at hz
    rcases hz with rfl | hz
    · unfold W32; omega
    · exact plus8_ok xs ys z hz
  | [], _ => by intro z hz; simp [plus8] at hz
  | _ :: _, [] => by intro z hz; simp [plus8] at hz
theorem absorb_ok : ∀ (k : Nat) (st l : List Int), Okst st → Okst (absorb k st l)
  | 0, _, _, h => h
  | k + 1, st, l, _ => absorb_ok k _ _ (plus8_ok _ _)
theorem not_eq (e : Int) (h : W32 e) : bits .xor .u32 4294967295 e = 4294967295 - e := bits_not e h.1 h.2

end Go.Proofs.Ytghomncegjamfaa