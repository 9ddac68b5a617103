/- Plain mathematics of the draw: no program in sight. -/
import Derived.Test.YtghomncegjamfaaGreatMnum
namespace Go.Proofs.YtghomncegjamfaaGreat

def strDraw : ByteArray := ⟨#[100, 114, 97, 119]⟩
def commitS (salt : ByteArray) (n : Int) : ByteArray := tagS strDraw [salt, putS n]
theorem commitS_size (salt : ByteArray) (n : Int) : (commitS salt n).size = 16 := tagS_size _ _
def topV (m : Int) : Int := if 1 ≤ m ∧ m ≤ 4294967296 then 18446744073709551615 - 18446744073709551616 % m else 0
def topE (m : Int) : Int := if 1 ≤ m ∧ m ≤ 4294967296 then 0 else 1
theorem topV_pos {m : Int} (h : 1 ≤ m ∧ m ≤ 4294967296) : topV m = 18446744073709551615 - 18446744073709551616 % m := by unfold topV; rw [if_pos h]
theorem topV_neg {m : Int} (h : ¬ (1 ≤ m ∧ m ≤ 4294967296)) : topV m = 0 := by unfold topV; rw [if_neg h]
theorem topE_pos {m : Int} (h : 1 ≤ m ∧ m ≤ 4294967296) : topE m = 0 := by unfold topE; rw [if_pos h]
theorem topE_neg {m : Int} (h : ¬ (1 ≤ m ∧ m ≤ 4294967296)) : topE m = 1 := by unfold topE; rw [if_neg h]
theorem topV_range (m : Int) : 0 ≤ topV m ∧ topV m ≤ 18446744073709551615 := by
  unfold topV
  split
  · rename_i h
    have h0 := Int.emod_nonneg 18446744073709551616 (show m ≠ 0 by omega)
    have h1 := Int.emod_lt_of_pos 18446744073709551616 (show 0 < m by omega)
    omega
  · omega
theorem top_eq (m : Int) (h : 1 ≤ m ∧ m ≤ 4294967296) : (18446744073709551615 - (18446744073709551615 % m + 1) % 18446744073709551616 % m) % 18446744073709551616 = 18446744073709551615 - 18446744073709551616 % m := by
  have h0 := Int.emod_nonneg 18446744073709551615 (show m ≠ 0 by omega)
  have h1 := Int.emod_lt_of_pos 18446744073709551615 (show 0 < m by omega)
  have h2 : (18446744073709551615 % m + 1) % 18446744073709551616 = 18446744073709551615 % m + 1 := by omega
  have h3 : (18446744073709551615 % m + 1) % m = 18446744073709551616 % m := Int.emod_add_emod 18446744073709551615 m 1
  have h4 := Int.emod_nonneg 18446744073709551616 (show m ≠ 0 by omega)
  have h5 := Int.emod_lt_of_pos 18446744073709551616 (show 0 < m by omega)
  rw [h2, h3]
  omega
def fairV (raw m : Int) : Int := if 1 ≤ m ∧ m ≤ 4294967296 then (if topV m < raw then 0 else raw % m) else 0
def fairE (raw m : Int) : Int := if 1 ≤ m ∧ m ≤ 4294967296 then (if topV m < raw then 4 else 0) else 1
theorem fair_neg {raw m : Int} (h : ¬ (1 ≤ m ∧ m ≤ 4294967296)) : fairV raw m = 0 ∧ fairE raw m = 1 := by unfold fairV fairE; rw [if_neg h, if_neg h]; exact ⟨rfl, rfl⟩
theorem fair_high {raw m : Int} (h : 1 ≤ m ∧ m ≤ 4294967296) (h2 : topV m < raw) : fairV raw m = 0 ∧ fairE raw m = 4 := by unfold fairV fairE; rw [if_pos h, if_pos h, if_pos h2, if_pos h2]; exact ⟨rfl, rfl⟩
theorem fair_pos {raw m : Int} (h : 1 ≤ m ∧ m ≤ 4294967296) (h2 : ¬ topV m < raw) : fairV raw m = raw % m ∧ fairE raw m = 0 := by unfold fairV fairE; rw [if_pos h, if_pos h, if_neg h2, if_neg h2]; exact ⟨rfl, rfl⟩
theorem minus_div (a m : Int) (ha : 0 ≤ a) (ha2 : a ≤ 18446744073709551615) (hm : 0 < m) : (a - a / m * m % 18446744073709551616) % 18446744073709551616 = a % m := by
  have h1 : a % m = a - m * (a / m) := Int.emod_def a m
  have h2 := Int.emod_nonneg a (show m ≠ 0 by omega)
  have h3 : 0 ≤ a / m * m := Int.mul_nonneg (Int.ediv_nonneg ha (by omega)) (by omega)
  rw [Int.mul_comm] at h1
  omega
def winsB (d c w m : Int) : Bool := decide ((1 ≤ m ∧ m ≤ 4294967296 ∧ w ≤ m ∧ d < m) ∧ (d + c % m) % m < w)
def winsE (d w m : Int) : Int := if 1 ≤ m ∧ m ≤ 4294967296 ∧ w ≤ m ∧ d < m then 0 else 1
theorem wins_neg {d c w m : Int} (h : ¬ (1 ≤ m ∧ m ≤ 4294967296 ∧ w ≤ m ∧ d < m)) : winsB d c w m = false ∧ winsE d w m = 1 := by unfold winsB winsE; rw [if_neg h]; exact ⟨decide_eq_false (fun h2 => h h2.1), rfl⟩
theorem wins_pos {d c w m : Int} (h : 1 ≤ m ∧ m ≤ 4294967296 ∧ w ≤ m ∧ d < m) : winsB d c w m = decide ((d + c % m) % m < w) ∧ winsE d w m = 0 := by
  unfold winsB winsE; rw [if_pos h]
  refine ⟨?_, rfl⟩
  rw [decide_eq_decide]
  exact ⟨fun h2 => h2.2, fun h2 => ⟨h, h2⟩⟩
theorem wrap_mod {d x m : Int} (h0 : 0 ≤ d) (h1 : d < m) (h2 : 0 ≤ x) (h3 : x < m) : (m ≤ d + x → (d + x) % m = d + x - m) ∧ (d + x < m → (d + x) % m = d + x) :=
  ⟨fun h => by rw [← Int.sub_emod_right, Int.emod_eq_of_lt (by omega) (by omega)], fun h => Int.emod_eq_of_lt (by omega) h⟩
def nomV (f w m : Int) : Int := if 1 ≤ m ∧ m ≤ 4294967296 ∧ w ≤ m then (if 0 < f * w % m then 0 else f * w / m) else 0
def nomE (f w m : Int) : Int := if 1 ≤ m ∧ m ≤ 4294967296 ∧ w ≤ m then (if 0 < f * w % m then 4 else 0) else 1
theorem nom_neg {f w m : Int} (h : ¬ (1 ≤ m ∧ m ≤ 4294967296 ∧ w ≤ m)) : nomV f w m = 0 ∧ nomE f w m = 1 := by unfold nomV nomE; rw [if_neg h, if_neg h]; exact ⟨rfl, rfl⟩
theorem nom_odd {f w m : Int} (h : 1 ≤ m ∧ m ≤ 4294967296 ∧ w ≤ m) (h2 : 0 < f * w % m) : nomV f w m = 0 ∧ nomE f w m = 4 := by unfold nomV nomE; rw [if_pos h, if_pos h, if_pos h2, if_pos h2]; exact ⟨rfl, rfl⟩
theorem nom_pos {f w m : Int} (h : 1 ≤ m ∧ m ≤ 4294967296 ∧ w ≤ m) (h2 : ¬ 0 < f * w % m) : nomV f w m = f * w / m ∧ nomE f w m = 0 := by unfold nomV nomE; rw [if_pos h, if_pos h, if_neg h2, if_neg h2]; exact ⟨rfl, rfl⟩
theorem nom_le {f w m : Int} (hf : 0 ≤ f) (h : 1 ≤ m ∧ w ≤ m) : f * w / m ≤ f := by
  apply Int.ediv_le_of_le_mul (by omega)
  exact Int.mul_le_mul_of_nonneg_left h.2 hf
theorem nom_md {f w m : Int} (hf : 0 ≤ f) (hf2 : f ≤ 18446744073709551615) (h : 1 ≤ m ∧ w ≤ m) : mdV f w m = f * w / m ∧ mdE f w m = 0 := by
  have h1 := nom_le (w := w) hf h
  unfold mdV mdE
  rw [if_neg (show ¬ m = 0 by omega), if_neg (show ¬ m = 0 by omega), if_neg (by omega), if_neg (by omega)]
  exact ⟨rfl, rfl⟩
theorem rm_pos {f w m : Int} (h : m ≠ 0) : rmV f w m = f * w % m ∧ rmE m = 0 := by unfold rmV rmE; rw [if_neg h, if_neg h]; exact ⟨rfl, rfl⟩
theorem nomV_range {f w m : Int} (hf : 0 ≤ f) (hf2 : f ≤ 18446744073709551615) (hw : 0 ≤ w) : 0 ≤ nomV f w m ∧ nomV f w m ≤ f := by
  unfold nomV
  split
  · rename_i h
    split
    · omega
    · have h1 := nom_le (w := w) hf ⟨h.1, h.2.2⟩
      have h2 : 0 ≤ f * w / m := Int.ediv_nonneg (Int.mul_nonneg hf hw) (by omega)
      omega
  · omega

/-! ### The family -/
def cntW (c w m : Int) : Nat → Int
  | 0 => 0
  | r + 1 => cntW c w m r + (if ((r : Int) + c) % m < w then 1 else 0)
theorem cntW_eq (c w m : Int) (h0 : 0 ≤ c) (h1 : c < m) (hw : 0 ≤ w) (hw2 : w ≤ m) : ∀ r : Nat, r ≤ m → cntW c w m r = if r + c ≤ m then min (r + c) w - min c w else w - min c w + min (r + c - m) w
  | 0, _ => by rw [if_pos (by omega)]; simp [cntW]
  | r + 1, h => by
    have ih := cntW_eq c w m h0 h1 hw hw2 r (by omega)
    have hm := wrap_mod (d := (r : Int)) (x := c) (m := m) (by omega) (by omega) h0 h1
    simp only [cntW, ih]
    rcases Int.lt_or_le ((r : Int) + c) m with h2 | h2
    · rw [hm.2 h2]
      rw [if_pos (by omega)]
      split <;> split <;> omega
    · rw [hm.1 h2]
      split <;> split <;> split <;> omega
theorem cntW_end (c w m : Int) (h0 : 0 ≤ c) (h1 : c < m) (hw : 0 ≤ w) (hw2 : w ≤ m) (r : Nat) (hr : (r : Int) = m) : cntW c w m r = w := by
  rw [cntW_eq c w m h0 h1 hw hw2 r (by omega)]
  split <;> omega
theorem cntW_range (c w m : Int) : ∀ r : Nat, 0 ≤ cntW c w m r ∧ cntW c w m r ≤ r
  | 0 => by simp [cntW]
  | r + 1 => by have := cntW_range c w m r; simp only [cntW]; split <;> omega
theorem exact_div {f w m : Int} (h : ¬ 0 < f * w % m) (hm : 0 < m) : f * w / m * m = f * w := by
  have h0 := Int.emod_nonneg (f * w) (show m ≠ 0 by omega)
  have h1 := Int.mul_ediv_add_emod (f * w) m
  rw [Int.mul_comm]
  omega
theorem back_mul {f w m : Int} (h : ¬ 0 < f * w % m) (hm : 0 < m) (hf : 0 < f) : f * w / m * m / f = w ∧ f * w / m * m % f = 0 := by
  rw [exact_div h hm]
  exact ⟨Int.mul_ediv_cancel_left w (by omega), Int.mul_emod_right f w⟩
theorem back_md {f w m : Int} (h : ¬ 0 < f * w % m) (hm : 0 < m) (hf : 0 < f) (hw : w ≤ 18446744073709551615) : mdV (f * w / m) m f = w ∧ mdE (f * w / m) m f = 0 ∧ rmV (f * w / m) m f = 0 := by
  have h1 := back_mul h hm hf
  unfold mdV mdE rmV
  rw [if_neg (show ¬ f = 0 by omega), if_neg (show ¬ f = 0 by omega), if_neg (show ¬ f = 0 by omega), h1.1, if_neg (by omega), if_neg (by omega)]
  exact ⟨rfl, rfl, h1.2⟩
theorem shares {f a b m : Int} (h : ¬ 0 < f * a % m) (h2 : ¬ 0 < f * b % m) (hm : 0 < m) : ¬ 0 < f * (a + b) % m ∧ f * (a + b) / m = f * a / m + f * b / m := by
  have e1 := exact_div h hm
  have e2 := exact_div h2 hm
  have e : f * (a + b) = m * (f * a / m + f * b / m) := by
    have h3 : m * (f * a / m) = f * a := by rw [Int.mul_comm]; exact e1
    have h4 : m * (f * b / m) = f * b := by rw [Int.mul_comm]; exact e2
    rw [Int.mul_add, Int.mul_add, h3, h4]
  rw [e]
  exact ⟨by rw [Int.mul_emod_right]; omega, Int.mul_ediv_cancel_left _ (by omega)⟩
theorem all_face {f m : Int} (hm : 0 < m) : ¬ 0 < f * m % m ∧ f * m / m = f := ⟨by rw [Int.mul_emod_left]; omega, Int.mul_ediv_cancel f (by omega)⟩
theorem turn_one (r c m : Int) : ((r + 1) % m + (c + m - 1) % m % m) % m = (r + c % m) % m := by
  rw [Int.emod_emod_of_dvd _ (Int.dvd_refl m), ← Int.add_emod, Int.add_emod_emod, show r + 1 + (c + m - 1) = r + c + m by omega, Int.add_emod_right]

/-! ### Words -/
theorem top_facts {m t : Int} (h : 1 ≤ m ∧ m ≤ 4294967296) (ht : t = 18446744073709551615 - 18446744073709551616 % m) : t % m = m - 1 ∧ t / m = 18446744073709551616 / m - 1 ∧ 18446744073709551615 - t < m ∧ t = t / m * m + (m - 1) := by
  have h0 := Int.emod_nonneg 18446744073709551616 (show m ≠ 0 by omega)
  have h1 := Int.emod_lt_of_pos 18446744073709551616 (show 0 < m by omega)
  have h2 := Int.mul_ediv_add_emod 18446744073709551616 m
  have e : t = (m - 1) + m * (18446744073709551616 / m - 1) := by rw [Int.mul_sub]; omega
  have e1 : t % m = m - 1 := by rw [e, Int.add_mul_emod_self_left, Int.emod_eq_of_lt (by omega) (by omega)]
  have e2 : t / m = 18446744073709551616 / m - 1 := by rw [e, Int.add_mul_ediv_left _ _ (by omega), Int.ediv_eq_zero_of_lt (by omega) (by omega)]; omega
  refine ⟨e1, e2, by omega, ?_⟩
  rw [e2, Int.mul_comm]
  omega
theorem word_low {m t k x : Int} (h : 1 ≤ m) (ht : t = t / m * m + (m - 1)) (hk : k ≤ t / m) (hx2 : x < m) : k * m ≤ t - x := by
  have h1 : k * m ≤ t / m * m := Int.mul_le_mul_of_nonneg_right hk (by omega)
  omega
theorem word_tells {m k x : Int} (hx : 0 ≤ x) (hx2 : x < m) : (k * m + x) % m = x := by
  rw [Int.add_comm, Int.add_mul_emod_self_right, Int.emod_eq_of_lt hx hx2]
end Go.Proofs.YtghomncegjamfaaGreat
