/- Plain mathematics of the one-time signatures: no program in sight. -/
import Derived.Test.YtghomncegjamfaaGreatTd
namespace Go.Proofs.YtghomncegjamfaaGreat

def strMessage : ByteArray := ⟨#[109, 101, 115, 115, 97, 103, 101]⟩
def strStep : ByteArray := ⟨#[115, 116, 101, 112]⟩
def strSecret : ByteArray := ⟨#[115, 101, 99, 114, 101, 116]⟩
def strPublic : ByteArray := ⟨#[112, 117, 98, 108, 105, 99]⟩

/-! ### The digits -/
def msgH (msg : ByteArray) : ByteArray := tagS strMessage [msg]
theorem msgH_size (msg : ByteArray) : (msgH msg).size = 16 := tagS_size _ _
def hAt (msg : ByteArray) (i : Nat) : Int := (ints (msgH msg)).getD i 0
theorem hAt_range (msg : ByteArray) (i : Nat) : 0 ≤ hAt msg i ∧ hAt msg i ≤ 255 := ints_getD_range _ _
def digL (msg : ByteArray) : Nat → List Int
  | 0 => []
  | i + 1 => digL msg i ++ [hAt msg i / 16, hAt msg i % 16]
theorem digL_length (msg : ByteArray) (i : Nat) : (digL msg i).length = 2 * i := by induction i with | zero => rfl | succ i ih => simp [digL, ih]; omega
def lackL (msg : ByteArray) : Nat → Int
  | 0 => 0
  | i + 1 => lackL msg i + (30 - hAt msg i / 16 - hAt msg i % 16)
theorem lackL_range (msg : ByteArray) (i : Nat) : 0 ≤ lackL msg i ∧ lackL msg i ≤ 30 * i := by
  induction i with
  | zero => simp [lackL]
  | succ i ih => have := hAt_range msg i; simp only [lackL]; omega
def digs (msg : ByteArray) : List Int := digL msg 8 ++ [lackL msg 8 / 16, lackL msg 8 % 16]
theorem digs_length (msg : ByteArray) : (digs msg).length = 18 := by simp [digs, digL_length]
theorem digL_range (msg : ByteArray) : ∀ i, ∀ x ∈ digL msg i, 0 ≤ x ∧ x ≤ 15
  | 0, x, hx => by cases hx
  | i + 1, x, hx => by
    have := hAt_range msg i
    simp only [digL, List.mem_append, List.mem_cons, List.not_mem_nil, or_false] at hx
    rcases hx with hx | rfl | rfl
    · exact digL_range msg i x hx
    · omega
    · omega
theorem digs_range (msg : ByteArray) : ∀ x ∈ digs msg, 0 ≤ x ∧ x ≤ 15 := by
  intro x hx
  have := lackL_range msg 8
  simp only [digs, List.mem_append, List.mem_cons, List.not_mem_nil, or_false] at hx
  rcases hx with hx | rfl | rfl
  · exact digL_range msg 8 x hx
  · omega
  · omega
def dig (msg : ByteArray) (i : Nat) : Int := (digs msg).getD i 0
theorem dig_range (msg : ByteArray) (i : Nat) : 0 ≤ dig msg i ∧ dig msg i ≤ 15 := by
  unfold dig
  rw [List.getD_eq_getElem?_getD]
  cases h : (digs msg)[i]? with
  | none => simp
  | some x => exact digs_range msg x (List.mem_of_getElem? h)
/-- The digits so far, and noughts. -/
def dpad (msg : ByteArray) (i : Nat) : List Int := digL msg i ++ List.replicate (18 - 2 * i) 0
theorem dpad_length (msg : ByteArray) (i : Nat) (h : i ≤ 8) : (dpad msg i).length = 18 := by simp [dpad, digL_length]; omega
theorem dpad_set (msg : ByteArray) (i : Nat) (h : i < 8) : ((dpad msg i).set (2 * i) (hAt msg i / 16)).set (2 * i + 1) (hAt msg i % 16) = dpad msg (i + 1) := by
  unfold dpad
  rw [List.set_append_right _ _ (by rw [digL_length]; exact Nat.le_refl _), List.set_append_right _ _ (by rw [digL_length]; omega), digL_length, Nat.sub_self, show 2 * i + 1 - 2 * i = 1 by omega,
    show 18 - 2 * i = (18 - 2 * (i + 1)) + 1 + 1 by omega, List.replicate_succ, List.replicate_succ]
  simp [digL]
theorem dpad_at (msg : ByteArray) (i : Nat) (h : i < 8) : (dpad msg (i + 1)).getD (2 * i) 0 = hAt msg i / 16 ∧ (dpad msg (i + 1)).getD (2 * i + 1) 0 = hAt msg i % 16 := by
  rw [← dpad_set msg i h]
  have := dpad_length msg i (by omega)
  simp [List.getD_eq_getElem?_getD, this, show 2 * i < 18 by omega, show 2 * i + 1 < 18 by omega]
theorem dpad_end (msg : ByteArray) : ((dpad msg 8).set 16 (lackL msg 8 / 16)).set 17 (lackL msg 8 % 16) = digs msg := by
  unfold dpad digs
  rw [List.set_append_right _ _ (by rw [digL_length]; omega), List.set_append_right _ _ (by rw [digL_length]; omega), digL_length]
  rfl

/-! ### Steps -/
def stepN (p : Int) (x : ByteArray) : Nat → ByteArray
  | 0 => x
  | k + 1 => tagS strStep [oneB p, stepN p x k]
theorem stepN_size (p : Int) (x : ByteArray) (h : x.size = 16) : ∀ k, (stepN p x k).size = 16
  | 0 => h
  | _ + 1 => tagS_size _ _
theorem stepN_add (p : Int) (x : ByteArray) (j : Nat) : ∀ k, stepN p x (j + k) = stepN p (stepN p x j) k
  | 0 => rfl
  | k + 1 => by show tagS strStep [oneB p, stepN p x (j + k)] = _; rw [stepN_add p x j k]; rfl
def stepF (p : Int) (x : ByteArray) (n : Int) : ByteArray := if 0 ≤ p ∧ p < 18 ∧ x.size = 16 ∧ 0 ≤ n ∧ n ≤ 15 then stepN p x n.toNat else ⟨#[]⟩
theorem stepF_pos {p : Int} {x : ByteArray} {n : Int} (h : 0 ≤ p ∧ p < 18 ∧ x.size = 16 ∧ 0 ≤ n ∧ n ≤ 15) : stepF p x n = stepN p x n.toNat := by unfold stepF; rw [if_pos h]
theorem stepF_neg {p : Int} {x : ByteArray} {n : Int} (h : ¬ (0 ≤ p ∧ p < 18 ∧ x.size = 16 ∧ 0 ≤ n ∧ n ≤ 15)) : stepF p x n = ⟨#[]⟩ := by unfold stepF; rw [if_neg h]
theorem stepF_size {p : Int} {x : ByteArray} {n : Int} (h : 0 ≤ p ∧ p < 18 ∧ x.size = 16 ∧ 0 ≤ n ∧ n ≤ 15) : (stepF p x n).size = 16 := by rw [stepF_pos h]; exact stepN_size _ _ h.2.2.1 _
theorem stepF_small (p : Int) (x : ByteArray) (n : Int) : (stepF p x n).size ≤ 16 := by
  by_cases h : 0 ≤ p ∧ p < 18 ∧ x.size = 16 ∧ 0 ≤ n ∧ n ≤ 15
  · rw [stepF_size h]; exact Nat.le_refl _
  · rw [stepF_neg h]; exact Nat.zero_le _
def secS (seed : ByteArray) (i : Int) : ByteArray := tagS strSecret [seed, oneB i]
theorem secS_size (seed : ByteArray) (i : Int) : (secS seed i).size = 16 := tagS_size _ _

/-! ### Places put together -/
def allS (f : Nat → ByteArray) : Nat → ByteArray
  | 0 => ⟨#[]⟩
  | k + 1 => allS f k ++ f k
theorem allS_size (f : Nat → ByteArray) (h : ∀ i, (f i).size ≤ 16) : ∀ k, (allS f k).size ≤ 16 * k
  | 0 => by simp [allS]; rfl
  | k + 1 => by have := allS_size f h k; have := h k; simp only [allS, ByteArray.size_append]; omega
theorem allS_size' (f : Nat → ByteArray) : ∀ k, (∀ i, i < k → (f i).size = 16) → (allS f k).size = 16 * k
  | 0, _ => rfl
  | k + 1, h => by have := allS_size' f k (fun i hi => h i (by omega)); have := h k (by omega); simp only [allS, ByteArray.size_append]; omega
theorem allS_congr (f g : Nat → ByteArray) : ∀ k, (∀ i, i < k → f i = g i) → allS f k = allS g k
  | 0, _ => rfl
  | k + 1, h => by rw [allS, allS, allS_congr f g k (fun i hi => h i (by omega)), h k (by omega)]
def partAt (sig : ByteArray) (i : Nat) : ByteArray := sig.extract (16 * i) (16 * i + 16)
theorem ints_size {a b : ByteArray} (h : ints a = ints b) : a = b := ints_inj h
theorem ints_allS (f : Nat → ByteArray) : ∀ k, ints (allS f (k + 1)) = ints (allS f k) ++ ints (f k) := fun k => by rw [allS, ints_append]
theorem allS_part (f : Nat → ByteArray) : ∀ (k : Nat), (∀ i, i < k → (f i).size = 16) → ∀ i, i < k → partAt (allS f k) i = f i
  | 0, _, i, hi => by omega
  | k + 1, h, i, hi => by
    have hk := allS_size' f k (fun i hi => h i (by omega))
    have hf := h k (by omega)
    apply ints_inj
    by_cases e : i < k
    · rw [← allS_part f k (fun i hi => h i (by omega)) i e]
      unfold partAt
      rw [ints_extract, ints_extract, ints_allS, List.take_append_of_le_length (by rw [ints_length, hk]; omega)]
    · obtain rfl : i = k := by omega
      unfold partAt
      rw [ints_extract, ints_allS, List.take_of_length_le (by rw [List.length_append, ints_length, ints_length, hk, hf]; exact Nat.le_refl _), List.drop_left' (by rw [ints_length, hk])]
def pubAll (seed : ByteArray) (k : Nat) : ByteArray := allS (fun i => stepF i (secS seed i) 15) k
def pubS (seed : ByteArray) : ByteArray := tagS strPublic [pubAll seed 18]
def signAll (seed msg : ByteArray) (k : Nat) : ByteArray := allS (fun i => stepF i (secS seed i) (dig msg i)) k
def signS (seed msg : ByteArray) : ByteArray := signAll seed msg 18
def fromAll (msg sig : ByteArray) (k : Nat) : ByteArray := allS (fun i => stepF i (partAt sig i) (15 - dig msg i)) k
def fromS (msg sig : ByteArray) : ByteArray := if sig.size = 288 then tagS strPublic [fromAll msg sig 18] else ⟨#[]⟩
def fromE (sig : ByteArray) : Int := if sig.size = 288 then 0 else 4
def verS (pub msg sig : ByteArray) : Bool := decide (fromE sig = 0) && decide (fromS msg sig = pub)
theorem pubAll_size (seed : ByteArray) (k : Nat) : (pubAll seed k).size ≤ 16 * k := allS_size _ (fun _ => stepF_small _ _ _) k
theorem signAll_size (seed msg : ByteArray) (k : Nat) : (signAll seed msg k).size ≤ 16 * k := allS_size _ (fun _ => stepF_small _ _ _) k
theorem fromAll_size (msg sig : ByteArray) (k : Nat) : (fromAll msg sig k).size ≤ 16 * k := allS_size _ (fun _ => stepF_small _ _ _) k
theorem sign_step (seed msg : ByteArray) (i : Nat) (h : i < 18) : (stepF i (secS seed i) (dig msg i)).size = 16 := by
  have := dig_range msg i
  exact stepF_size ⟨by omega, by omega, secS_size _ _, by omega, by omega⟩
theorem signS_size (seed msg : ByteArray) : (signS seed msg).size = 288 := allS_size' _ 18 fun i hi => sign_step seed msg i hi
theorem sign_part (seed msg : ByteArray) (i : Nat) (h : i < 18) : partAt (signS seed msg) i = stepF i (secS seed i) (dig msg i) := allS_part _ 18 (fun i hi => sign_step seed msg i hi) i h
theorem step_back (seed msg : ByteArray) (i : Nat) (h : i < 18) : stepF i (stepF i (secS seed i) (dig msg i)) (15 - dig msg i) = stepF i (secS seed i) 15 := by
  have hd := dig_range msg i
  have hs := secS_size seed i
  rw [stepF_pos (x := secS seed i) (n := dig msg i) ⟨by omega, by omega, hs, by omega, by omega⟩, stepF_pos (n := 15) ⟨by omega, by omega, hs, by omega, by omega⟩,
    stepF_pos ⟨by omega, by omega, stepN_size _ _ hs _, by omega, by omega⟩, ← stepN_add]
  congr 1
  omega
/-- WHAT IS SIGNED VERIFIES. -/
theorem from_sign (seed msg : ByteArray) : fromS msg (signS seed msg) = pubS seed := by
  unfold fromS pubS
  rw [if_pos (signS_size seed msg)]
  have : fromAll msg (signS seed msg) 18 = pubAll seed 18 := allS_congr _ _ 18 fun i hi => by rw [sign_part seed msg i hi, step_back seed msg i hi]
  rw [this]
theorem fromE_sign (seed msg : ByteArray) : fromE (signS seed msg) = 0 := by unfold fromE; rw [if_pos (signS_size seed msg)]
theorem pubS_size (seed : ByteArray) : (pubS seed).size = 16 := tagS_size _ _
theorem ver_sign (seed msg : ByteArray) : verS (pubS seed) msg (signS seed msg) = true := by unfold verS; rw [from_sign, fromE_sign]; simp
theorem ver_other (pub msg sig : ByteArray) (h : sig.size ≠ 288) : verS pub msg sig = false := by unfold verS fromE; rw [if_neg h]; simp
theorem ver_none (pub seed msg : ByteArray) (h : pub.size ≠ 16) : verS pub msg (signS seed msg) = false := by
  unfold verS; rw [from_sign]
  have : pubS seed ≠ pub := fun e => h (by rw [← e]; exact pubS_size seed)
  simp [this]

/-! ### The digits of two messages -/
def sumD (msg : ByteArray) : Nat → Int
  | 0 => 0
  | i + 1 => sumD msg i + dig msg i
theorem digL_at (msg : ByteArray) : ∀ (k i : Nat), i < k → (digL msg k).getD (2 * i) 0 = hAt msg i / 16 ∧ (digL msg k).getD (2 * i + 1) 0 = hAt msg i % 16
  | 0, i, h => by omega
  | k + 1, i, h => by
    simp only [digL, List.getD_eq_getElem?_getD]
    by_cases e : i < k
    · have := digL_at msg k i e
      simp only [List.getD_eq_getElem?_getD] at this
      rw [List.getElem?_append_left (by rw [digL_length]; omega), List.getElem?_append_left (by rw [digL_length]; omega)]
      exact this
    · obtain rfl : i = k := by omega
      rw [List.getElem?_append_right (by rw [digL_length]; omega), List.getElem?_append_right (by rw [digL_length]; omega), digL_length, Nat.sub_self, show 2 * i + 1 - 2 * i = 1 by omega]
      exact ⟨rfl, rfl⟩
theorem dig_two (msg : ByteArray) (i : Nat) (h : i < 8) : dig msg (2 * i) = hAt msg i / 16 ∧ dig msg (2 * i + 1) = hAt msg i % 16 := by
  have := digL_at msg 8 i h
  unfold dig digs
  simp only [List.getD_eq_getElem?_getD] at this ⊢
  rw [List.getElem?_append_left (by rw [digL_length]; omega), List.getElem?_append_left (by rw [digL_length]; omega)]
  exact this
theorem dig_last (msg : ByteArray) : dig msg 16 = lackL msg 8 / 16 ∧ dig msg 17 = lackL msg 8 % 16 := by
  unfold dig digs
  simp only [List.getD_eq_getElem?_getD]
  rw [List.getElem?_append_right (by rw [digL_length]; omega), List.getElem?_append_right (by rw [digL_length]; omega), digL_length]
  exact ⟨rfl, rfl⟩
theorem sum_lack (msg : ByteArray) : ∀ i, i ≤ 8 → sumD msg (2 * i) + lackL msg i = 30 * i
  | 0, _ => rfl
  | i + 1, h => by
    have ih := sum_lack msg i (by omega)
    have hd := dig_two msg i (by omega)
    rw [show 2 * (i + 1) = 2 * i + 1 + 1 by omega]
    simp only [sumD, lackL]
    omega
theorem sum_all (msg : ByteArray) : 240 - sumD msg 16 = 16 * dig msg 16 + dig msg 17 := by
  have h1 := sum_lack msg 8 (by omega)
  have h2 := dig_last msg
  have h3 : sumD msg (2 * 8) = sumD msg 16 := rfl
  omega
theorem sumD_range (msg : ByteArray) : ∀ i, 0 ≤ sumD msg i ∧ sumD msg i ≤ 15 * i
  | 0 => by simp [sumD]
  | i + 1 => by have := sumD_range msg i; have := dig_range msg i; simp only [sumD]; omega
/-- Is one of the first digits below the other message's there? -/
def lessB (a b : ByteArray) : Nat → Bool
  | 0 => false
  | i + 1 => lessB a b i || decide (dig a i < dig b i)
theorem sum_less (a b : ByteArray) : ∀ k, lessB b a k = false → sumD a k ≤ sumD b k ∧ (lessB a b k = true → sumD a k < sumD b k)
  | 0, _ => by simp [lessB, sumD]
  | k + 1, h => by
    simp only [lessB, Bool.or_eq_false_iff, decide_eq_false_iff_not] at h
    have ih := sum_less a b k h.1
    simp only [sumD, lessB, Bool.or_eq_true, decide_eq_true_eq]
    refine ⟨by omega, ?_⟩
    rintro (h1 | h1)
    · have := ih.2 h1; omega
    · omega
theorem less_more (a b : ByteArray) (h : lessB b a 18 = false) : lessB a b 18 = false := by
  cases h1 : lessB a b 18 with
  | false => rfl
  | true =>
    exfalso
    have h0 := h
    simp only [lessB, Bool.or_eq_false_iff, decide_eq_false_iff_not] at h
    have hs := sum_less a b 16 (by simp only [lessB, Bool.or_eq_false_iff, decide_eq_false_iff_not]; exact h.1.1)
    have sa := sum_all a
    have sb := sum_all b
    have ra := dig_range a 17
    have rb := dig_range b 17
    have h18 : lessB a b 18 = (lessB a b 16 || decide (dig a 16 < dig b 16) || decide (dig a 17 < dig b 17)) := rfl
    rw [h18] at h1
    simp only [Bool.or_eq_true, decide_eq_true_eq] at h1
    rcases h1 with (h1 | h1) | h1
    · have := hs.2 h1; omega
    · omega
    · omega
theorem less_same (a b : ByteArray) : (lessB a b 18 == lessB b a 18) = true := by
  cases h : lessB b a 18 with
  | false => rw [less_more a b h]; rfl
  | true =>
    cases h1 : lessB a b 18 with
    | true => rfl
    | false => rw [less_more b a h1] at h; cases h
theorem and15_64 (x : Int) : bits .and .i64 x 15 = x % 16 := by
  have h1 : bits .and .i64 x 15 = IntKind.i64.wrap (((BitVec.ofInt 64 x &&& BitVec.ofInt 64 15).toNat : Nat) : Int) := rfl
  have h2 : (BitVec.ofInt 64 x &&& BitVec.ofInt 64 15).toNat = (BitVec.ofInt 64 x).toNat % 16 := by
    rw [BitVec.toNat_and]
    exact Nat.and_two_pow_sub_one_eq_mod _ 4
  rw [h1, h2]
  have h3 : ((BitVec.ofInt 64 x).toNat : Int) = x % 18446744073709551616 := by rw [BitVec.toNat_ofInt]; omega
  rw [wrap_fits (by simp only [fits]; omega)]
  omega
theorem step_valid {p : Int} {x : ByteArray} {n : Int} (h : ¬ stepF p x n = ⟨#[]⟩) : 0 ≤ p ∧ p < 18 ∧ x.size = 16 ∧ 0 ≤ n ∧ n ≤ 15 := by
  by_cases hv : 0 ≤ p ∧ p < 18 ∧ x.size = 16 ∧ 0 ≤ n ∧ n ≤ 15
  · exact hv
  · exact absurd (stepF_neg hv) h
theorem step_parts {p : Int} {x : ByteArray} {k m : Int} (hp : 0 ≤ p) (hp2 : p < 18) (hx : x.size = 16) (hk : 0 ≤ k) (hm : 0 ≤ m) (hkm : k + m ≤ 15) : stepF p (stepF p x k) m = stepF p x (k + m) := by
  rw [stepF_pos (x := x) (n := k) ⟨hp, hp2, hx, hk, by omega⟩, stepF_pos ⟨hp, hp2, stepN_size _ _ hx _, hm, by omega⟩, stepF_pos ⟨hp, hp2, hx, by omega, hkm⟩, ← stepN_add]
  congr 1
  omega
theorem step_zero {p : Int} {x : ByteArray} (hp : 0 ≤ p) (hp2 : p < 18) (hx : x.size = 16) : stepF p x 0 = x := by
  rw [stepF_pos ⟨hp, hp2, hx, by omega, by omega⟩]; rfl
theorem chain_end (seed msg : ByteArray) : tagS strPublic [fromAll msg (signS seed msg) 18] = pubS seed := by
  have h := from_sign seed msg
  unfold fromS at h
  rw [if_pos (signS_size seed msg)] at h
  exact h
theorem ver_self {msg sig : ByteArray} (h : fromE sig = 0) : verS (fromS msg sig) msg sig = true := by unfold verS; simp [h]
end Go.Proofs.YtghomncegjamfaaGreat
