/- Plain mathematics of trees and of the keys that sign few messages: no program in sight. -/
import Derived.Test.YtghomncegjamfaaGreatMwots
namespace Go.Proofs.YtghomncegjamfaaGreat

def strNode : ByteArray := ⟨#[110, 111, 100, 101]⟩
def strRoot : ByteArray := ⟨#[114, 111, 111, 116]⟩
def strLeaf : ByteArray := ⟨#[108, 101, 97, 102]⟩
def nodeS (a b : ByteArray) : ByteArray := tagS strNode [a, b]
theorem nodeS_size (a b : ByteArray) : (nodeS a b).size = 16 := tagS_size _ _
def topS (h : Int) (x : ByteArray) : ByteArray := tagS strRoot [oneB h, x]
theorem topS_size (h : Int) (x : ByteArray) : (topS h x).size = 16 := tagS_size _ _
def at0 (l : List ByteArray) (i : Nat) : ByteArray := l.getD i ⟨#[]⟩
theorem at0_some {l : List ByteArray} {i : Nat} (h : i < l.length) : l[i]? = some (at0 l i) := by
  unfold at0; rw [List.getD_eq_getElem?_getD, List.getElem?_eq_getElem h]; rfl
theorem at0_mem {l : List ByteArray} {i : Nat} (h : i < l.length) : at0 l i ∈ l := List.mem_of_getElem? (at0_some h)
theorem at0_eq {l : List ByteArray} {i : Nat} {p : ByteArray} (h : l[i]? = some p) : at0 l i = p := by
  unfold at0; rw [List.getD_eq_getElem?_getD, h]; rfl
/-- The row above a row. -/
def aboveL (l : List ByteArray) : List ByteArray := (List.range (l.length / 2)).map fun j => nodeS (at0 l (2 * j)) (at0 l (2 * j + 1))
theorem aboveL_length (l : List ByteArray) : (aboveL l).length = l.length / 2 := by simp [aboveL]
theorem aboveL_at {l : List ByteArray} {j : Nat} (h : j < l.length / 2) : at0 (aboveL l) j = nodeS (at0 l (2 * j)) (at0 l (2 * j + 1)) := by
  apply at0_eq
  unfold aboveL
  rw [List.getElem?_map, List.getElem?_range h]
  rfl
theorem aboveL_size {l : List ByteArray} : ∀ p ∈ aboveL l, p.size = 16 := by
  intro p hp
  obtain ⟨j, _, rfl⟩ := List.mem_map.1 hp
  exact nodeS_size _ _
theorem aboveL_take {l : List ByteArray} {j : Nat} (h : 2 * j + 1 < l.length) : (aboveL l).take (j + 1) = (aboveL l).take j ++ [nodeS (at0 l (2 * j)) (at0 l (2 * j + 1))] := by
  have hj : j < l.length / 2 := by omega
  rw [List.take_add_one, at0_some (by rw [aboveL_length]; exact hj), aboveL_at hj]
  rfl
def rowN (l : List ByteArray) : Nat → List ByteArray
  | 0 => l
  | k + 1 => aboveL (rowN l k)
theorem rowN_above (l : List ByteArray) : ∀ k, rowN (aboveL l) k = rowN l (k + 1)
  | 0 => rfl
  | k + 1 => by show aboveL (rowN (aboveL l) k) = aboveL (rowN l (k + 1)); rw [rowN_above l k]
theorem rowN_length (l : List ByteArray) : ∀ k, (rowN l k).length = l.length / 2 ^ k
  | 0 => by simp [rowN]
  | k + 1 => by rw [rowN, aboveL_length, rowN_length l k, Nat.pow_succ, Nat.div_div_eq_div_mul]
theorem rowN_size {l : List ByteArray} (h : ∀ p ∈ l, p.size = 16) : ∀ k, ∀ p ∈ rowN l k, p.size = 16
  | 0 => h
  | _ + 1 => aboveL_size
/-- So many leaves, and how tall they are. -/
def tallN (n : Nat) : Nat := if n = 2 then 1 else if n = 4 then 2 else if n = 8 then 3 else if n = 16 then 4 else 0
def okN (n : Nat) : Prop := n = 1 ∨ n = 2 ∨ n = 4 ∨ n = 8 ∨ n = 16
instance (n : Nat) : Decidable (okN n) := by unfold okN; exact inferInstance
theorem okN_pow {n : Nat} (h : okN n) : n = 2 ^ tallN n ∧ tallN n ≤ 4 := by
  rcases h with rfl | rfl | rfl | rfl | rfl <;> decide
theorem tall_pow {h : Nat} (hh : h ≤ 4) : tallN (2 ^ h) = h ∧ okN (2 ^ h) := by
  have : h = 0 ∨ h = 1 ∨ h = 2 ∨ h = 3 ∨ h = 4 := by omega
  rcases this with rfl | rfl | rfl | rfl | rfl <;> decide
theorem pow_le16 {h : Nat} (hh : h ≤ 4) : 1 ≤ 2 ^ h ∧ 2 ^ h ≤ 16 := by
  have : h = 0 ∨ h = 1 ∨ h = 2 ∨ h = 3 ∨ h = 4 := by omega
  rcases this with rfl | rfl | rfl | rfl | rfl <;> decide
def okL (l : List ByteArray) : Prop := okN l.length ∧ ∀ p ∈ l, p.size = 16
instance (l : List ByteArray) : Decidable (okL l) := by unfold okL; exact inferInstance
def tallL (l : List ByteArray) : Nat := tallN l.length
theorem okL_length {l : List ByteArray} (h : okL l) : l.length = 2 ^ tallL l ∧ tallL l ≤ 4 := okN_pow h.1
theorem row_pow {l : List ByteArray} {h k : Nat} (hl : l.length = 2 ^ h) (hk : k ≤ h) : (rowN l k).length = 2 ^ (h - k) := by
  rw [rowN_length, hl, Nat.pow_div hk (by decide)]
theorem row_last {l : List ByteArray} {h : Nat} (hl : l.length = 2 ^ h) : (rowN l h).length = 1 := by rw [row_pow hl (Nat.le_refl h), Nat.sub_self]
def rootS (l : List ByteArray) : ByteArray := if okL l then topS (tallL l : Nat) (at0 (rowN l (tallL l)) 0) else ⟨#[]⟩
def rootE (l : List ByteArray) : Int := if okL l then 0 else 1
theorem root_ok {l : List ByteArray} (h : okL l) : rootS l = topS (tallL l : Nat) (at0 (rowN l (tallL l)) 0) ∧ rootE l = 0 := by unfold rootS rootE; rw [if_pos h, if_pos h]; exact ⟨rfl, rfl⟩
theorem root_bad {l : List ByteArray} (h : ¬ okL l) : rootS l = ⟨#[]⟩ ∧ rootE l = 1 := by unfold rootS rootE; rw [if_neg h, if_neg h]; exact ⟨rfl, rfl⟩
theorem rootS_size {l : List ByteArray} (h : okL l) : (rootS l).size = 16 := by rw [(root_ok h).1]; exact topS_size _ _
theorem rootS_small (l : List ByteArray) : (rootS l).size ≤ 16 := by
  by_cases h : okL l
  · rw [rootS_size h]; exact Nat.le_refl _
  · rw [(root_bad h).1]; decide
/-- The one beside. -/
def sib (n : Nat) : Nat := if n % 2 = 0 then n + 1 else n - 1
def pathAt (l : List ByteArray) (i j : Nat) : ByteArray := at0 (rowN l j) (sib (i / 2 ^ j))
def pathN (l : List ByteArray) (i k : Nat) : List ByteArray := (List.range k).map (pathAt l i)
theorem pathN_length (l : List ByteArray) (i k : Nat) : (pathN l i k).length = k := by simp [pathN]
theorem pathN_succ (l : List ByteArray) (i k : Nat) : pathN l i (k + 1) = pathN l i k ++ [pathAt l i k] := by simp [pathN, List.range_succ]
theorem pathN_at {l : List ByteArray} {i k j : Nat} (h : j < k) : at0 (pathN l i k) j = pathAt l i j := by
  apply at0_eq
  unfold pathN
  rw [List.getElem?_map, List.getElem?_range h]
  rfl
theorem half_lt {l : List ByteArray} {h i j : Nat} (hl : l.length = 2 ^ h) (hi : i < l.length) (hj : j ≤ h) : i / 2 ^ j < (rowN l j).length := by
  rw [rowN_length]
  rw [hl] at hi ⊢
  rw [Nat.pow_div hj (by decide), Nat.div_lt_iff_lt_mul (Nat.two_pow_pos j), ← Nat.pow_add, Nat.sub_add_cancel hj]
  exact hi
theorem sib_lt {l : List ByteArray} {h i j : Nat} (hl : l.length = 2 ^ h) (hi : i < l.length) (hj : j < h) : sib (i / 2 ^ j) < (rowN l j).length := by
  have h1 := half_lt hl hi (Nat.le_of_lt hj)
  have h2 : (rowN l j).length % 2 = 0 := by
    rw [row_pow hl (Nat.le_of_lt hj), show h - j = (h - j - 1) + 1 by omega, Nat.pow_succ]
    exact Nat.mul_mod_left _ _
  generalize i / 2 ^ j = x at h1 ⊢
  unfold sib
  split <;> omega
theorem path_size {l : List ByteArray} {h i j : Nat} (hs : ∀ p ∈ l, p.size = 16) (hl : l.length = 2 ^ h) (hi : i < l.length) (hj : j < h) : (pathAt l i j).size = 16 :=
  rowN_size hs j _ (at0_mem (sib_lt hl hi hj))
theorem pathN_size {l : List ByteArray} {h i : Nat} (hs : ∀ p ∈ l, p.size = 16) (hl : l.length = 2 ^ h) (hi : i < l.length) : ∀ p ∈ pathN l i h, p.size = 16 := by
  intro p hp
  obtain ⟨j, hj, rfl⟩ := List.mem_map.1 hp
  exact path_size hs hl hi (List.mem_range.1 hj)
/-- Up a path. -/
def upK (x : ByteArray) (i : Nat) (p : List ByteArray) : Nat → ByteArray
  | 0 => x
  | k + 1 => if i / 2 ^ k % 2 = 0 then nodeS (upK x i p k) (at0 p k) else nodeS (at0 p k) (upK x i p k)
theorem upK_size {x : ByteArray} (h : x.size = 16) (i : Nat) (p : List ByteArray) : ∀ k, (upK x i p k).size = 16
  | 0 => h
  | k + 1 => by unfold upK; split <;> exact nodeS_size _ _
theorem up_row {l : List ByteArray} {h i : Nat} (hl : l.length = 2 ^ h) (hi : i < l.length) : ∀ k, k ≤ h → upK (at0 l i) i (pathN l i h) k = at0 (rowN l k) (i / 2 ^ k)
  | 0, _ => by simp [upK, rowN]
  | k + 1, hk => by
    have ih := up_row hl hi k (by omega)
    have h1 := half_lt hl hi (show k + 1 ≤ h by omega)
    rw [rowN, aboveL_length] at h1
    have h2 : i / 2 ^ (k + 1) = i / 2 ^ k / 2 := by rw [Nat.pow_succ, Nat.div_div_eq_div_mul]
    rw [rowN, aboveL_at h1, upK, ih, pathN_at (by omega), pathAt, h2]
    unfold sib
    split
    · rename_i h3
      rw [show 2 * (i / 2 ^ k / 2) = i / 2 ^ k by omega]
    · rename_i h3
      rw [show 2 * (i / 2 ^ k / 2) + 1 = i / 2 ^ k by omega, show 2 * (i / 2 ^ k / 2) = i / 2 ^ k - 1 by omega]
def upOk (leaf : ByteArray) (i : Int) (p : List ByteArray) : Prop := leaf.size = 16 ∧ p.length ≤ 4 ∧ (∀ x ∈ p, x.size = 16) ∧ 0 ≤ i ∧ i < ((2 ^ p.length : Nat) : Int)
instance (leaf : ByteArray) (i : Int) (p : List ByteArray) : Decidable (upOk leaf i p) := by unfold upOk; exact inferInstance
def upS (leaf : ByteArray) (i : Int) (p : List ByteArray) : ByteArray := if upOk leaf i p then topS (p.length : Nat) (upK leaf i.toNat p p.length) else ⟨#[]⟩
def upE (leaf : ByteArray) (i : Int) (p : List ByteArray) : Int := if upOk leaf i p then 0 else 1
theorem up_ok {leaf : ByteArray} {i : Int} {p : List ByteArray} (h : upOk leaf i p) : upS leaf i p = topS (p.length : Nat) (upK leaf i.toNat p p.length) ∧ upE leaf i p = 0 := by unfold upS upE; rw [if_pos h, if_pos h]; exact ⟨rfl, rfl⟩
theorem up_bad {leaf : ByteArray} {i : Int} {p : List ByteArray} (h : ¬ upOk leaf i p) : upS leaf i p = ⟨#[]⟩ ∧ upE leaf i p = 1 := by unfold upS upE; rw [if_neg h, if_neg h]; exact ⟨rfl, rfl⟩
theorem pow_cast (h : Nat) : ((2 ^ h : Nat) : Int) = 2 ^ h := by simp
/-- THE PATH LEADS TO THE ROOT. -/
theorem up_path {l : List ByteArray} (h : okL l) {i : Nat} (hi : i < l.length) : upS (at0 l i) i (pathN l i (tallL l)) = rootS l ∧ upE (at0 l i) i (pathN l i (tallL l)) = 0 := by
  obtain ⟨h1, h2⟩ := okL_length h
  have hok : upOk (at0 l i) i (pathN l i (tallL l)) := ⟨h.2 _ (at0_mem hi), by rw [pathN_length]; exact h2, pathN_size h.2 h1 hi, by omega, by rw [pathN_length]; omega⟩
  refine ⟨?_, (up_ok hok).2⟩
  rw [(up_ok hok).1, (root_ok h).1, pathN_length, Int.toNat_natCast, up_row h1 hi _ (Nat.le_refl _)]
  congr 2
  rw [Nat.div_eq_of_lt (by omega)]
/-- What Path tells. -/
def pathV (l : List ByteArray) (i : Int) : List ByteArray := if okL l ∧ 0 ≤ i ∧ i < l.length then pathN l i.toNat (tallL l) else []
def pathE (l : List ByteArray) (i : Int) : Int := if okL l ∧ 0 ≤ i ∧ i < l.length then 0 else 1
theorem path_ok {l : List ByteArray} {i : Int} (h : okL l ∧ 0 ≤ i ∧ i < l.length) : pathV l i = pathN l i.toNat (tallL l) ∧ pathE l i = 0 := by unfold pathV pathE; rw [if_pos h, if_pos h]; exact ⟨rfl, rfl⟩
theorem path_bad {l : List ByteArray} {i : Int} (h : ¬ (okL l ∧ 0 ≤ i ∧ i < l.length)) : pathV l i = [] ∧ pathE l i = 1 := by unfold pathV pathE; rw [if_neg h, if_neg h]; exact ⟨rfl, rfl⟩
theorem pathV_length (l : List ByteArray) (i : Int) : (pathV l i).length ≤ 4 := by
  unfold pathV
  split
  · rename_i h; rw [pathN_length]; exact (okL_length h.1).2
  · simp

/-! ### Keys -/
def seededS (seed : ByteArray) (i : Int) : ByteArray := tagS strLeaf [seed, oneB i]
theorem seededS_size (seed : ByteArray) (i : Int) : (seededS seed i).size = 16 := tagS_size _ _
def leafAt (seed : ByteArray) (i : Nat) : ByteArray := pubS (seededS seed i)
def leavesN (seed : ByteArray) (n : Nat) : List ByteArray := (List.range n).map (leafAt seed)
theorem leavesN_length (seed : ByteArray) (n : Nat) : (leavesN seed n).length = n := by simp [leavesN]
theorem leavesN_succ (seed : ByteArray) (n : Nat) : leavesN seed (n + 1) = leavesN seed n ++ [leafAt seed n] := by simp [leavesN, List.range_succ]
theorem leavesN_size (seed : ByteArray) (n : Nat) : ∀ p ∈ leavesN seed n, p.size = 16 := by
  intro p hp
  obtain ⟨j, _, rfl⟩ := List.mem_map.1 hp
  exact pubS_size _
theorem leavesN_at (seed : ByteArray) {n i : Nat} (h : i < n) : at0 (leavesN seed n) i = leafAt seed i := by
  apply at0_eq
  unfold leavesN
  rw [List.getElem?_map, List.getElem?_range h]
  rfl
def leavesS (seed : ByteArray) (h : Nat) : List ByteArray := leavesN seed (2 ^ h)
theorem leavesS_length (seed : ByteArray) (h : Nat) : (leavesS seed h).length = 2 ^ h := leavesN_length _ _
theorem leavesS_ok (seed : ByteArray) {h : Nat} (hh : h ≤ 4) : okL (leavesS seed h) := ⟨by rw [leavesS_length]; exact (tall_pow hh).2, leavesN_size _ _⟩
theorem leavesS_tall (seed : ByteArray) {h : Nat} (hh : h ≤ 4) : tallL (leavesS seed h) = h := by unfold tallL; rw [leavesS_length]; exact (tall_pow hh).1
def rootK (seed : ByteArray) (h : Nat) : ByteArray := rootS (leavesS seed h)
theorem rootK_size (seed : ByteArray) {h : Nat} (hh : h ≤ 4) : (rootK seed h).size = 16 := rootS_size (leavesS_ok seed hh)
def aboutS (root : ByteArray) (i : Int) (msg : ByteArray) : ByteArray := root ++ oneB i ++ msg
theorem aboutS_size (root : ByteArray) (i : Int) (msg : ByteArray) : (aboutS root i msg).size = root.size + 1 + msg.size := by simp [aboutS, oneB_size]
def catN (f : Nat → ByteArray) (k : Nat) : ByteArray := allS f k
def signHd (seed : ByteArray) (h i : Nat) (msg : ByteArray) : ByteArray := oneB i ++ signS (seededS seed i) (aboutS (rootK seed h) i msg)
theorem signHd_size (seed : ByteArray) (h i : Nat) (msg : ByteArray) : (signHd seed h i msg).size = 289 := by simp [signHd, oneB_size, signS_size]
def signP (seed : ByteArray) (h i : Nat) (msg : ByteArray) (k : Nat) : ByteArray := signHd seed h i msg ++ allS (pathAt (leavesS seed h) i) k
def signK (seed : ByteArray) (h i : Nat) (msg : ByteArray) : ByteArray := signP seed h i msg h
theorem signP_zero (seed : ByteArray) (h i : Nat) (msg : ByteArray) : signP seed h i msg 0 = signHd seed h i msg := ints_inj (by unfold signP; rw [ints_append]; simp [allS, ints])
theorem signP_succ (seed : ByteArray) (h i : Nat) (msg : ByteArray) (k : Nat) : signP seed h i msg (k + 1) = signP seed h i msg k ++ pathAt (leavesS seed h) i k := by simp [signP, allS, ByteArray.append_assoc]
theorem signP_size (seed : ByteArray) {h i : Nat} (hi : i < 2 ^ h) (msg : ByteArray) {k : Nat} (hk : k ≤ h) : (signP seed h i msg k).size = 289 + 16 * k := by
  unfold signP
  rw [ByteArray.size_append, signHd_size, allS_size' _ k fun j hj => path_size (l := leavesS seed h) (leavesN_size _ _) (leavesS_length seed h) (by rw [leavesS_length]; exact hi) (by omega)]
theorem signK_size (seed : ByteArray) {h i : Nat} (hi : i < 2 ^ h) (msg : ByteArray) : (signK seed h i msg).size = 289 + 16 * h := signP_size seed hi msg (Nat.le_refl h)
def byte0 (s : ByteArray) : Int := (ints s).getD 0 0
theorem byte0_range (s : ByteArray) : 0 ≤ byte0 s ∧ byte0 s ≤ 255 := ints_getD_range s 0
/-- A signature's form. -/
def leafOk (sig : ByteArray) : Prop := 289 ≤ sig.size ∧ (sig.size - 289) % 16 = 0 ∧ sig.size - 289 ≤ 64 ∧ byte0 sig < ((2 ^ ((sig.size - 289) / 16) : Nat) : Int)
instance (sig : ByteArray) : Decidable (leafOk sig) := by unfold leafOk; exact inferInstance
def leafV (sig : ByteArray) : Int := if leafOk sig then byte0 sig else 0
def leafE (sig : ByteArray) : Int := if leafOk sig then 0 else 4
theorem leaf_ok {sig : ByteArray} (h : leafOk sig) : leafV sig = byte0 sig ∧ leafE sig = 0 := by unfold leafV leafE; rw [if_pos h, if_pos h]; exact ⟨rfl, rfl⟩
theorem leaf_bad {sig : ByteArray} (h : ¬ leafOk sig) : leafV sig = 0 ∧ leafE sig = 4 := by unfold leafV leafE; rw [if_neg h, if_neg h]; exact ⟨rfl, rfl⟩
def partsN (sig : ByteArray) (k : Nat) : List ByteArray := (List.range k).map fun j => sig.extract (289 + 16 * j) (289 + 16 * j + 16)
theorem partsN_length (sig : ByteArray) (k : Nat) : (partsN sig k).length = k := by simp [partsN]
theorem partsN_succ (sig : ByteArray) (k : Nat) : partsN sig (k + 1) = partsN sig k ++ [sig.extract (289 + 16 * k) (289 + 16 * k + 16)] := by simp [partsN, List.range_succ]
theorem partsN_small (sig : ByteArray) (k : Nat) : ∀ p ∈ partsN sig k, p.size ≤ 16 := by
  intro p hp
  obtain ⟨j, _, rfl⟩ := List.mem_map.1 hp
  simp
  omega
def partsS (sig : ByteArray) : List ByteArray := partsN sig ((sig.size - 289) / 16)
def verK (root msg sig : ByteArray) : Bool :=
  decide (leafE sig = 0 ∧ root.size = 16) && (decide (upE (fromS (aboutS root (leafV sig) msg) (sig.extract 1 289)) (leafV sig) (partsS sig) = 0) && decide (upS (fromS (aboutS root (leafV sig) msg) (sig.extract 1 289)) (leafV sig) (partsS sig) = root))
theorem ver_no {root msg sig : ByteArray} (h : ¬ (leafE sig = 0 ∧ root.size = 16)) : verK root msg sig = false := by unfold verK; rw [decide_eq_false h]; rfl
theorem ver_yes {root msg sig : ByteArray} (h : leafE sig = 0 ∧ root.size = 16) : verK root msg sig = (decide (upE (fromS (aboutS root (leafV sig) msg) (sig.extract 1 289)) (leafV sig) (partsS sig) = 0) && decide (upS (fromS (aboutS root (leafV sig) msg) (sig.extract 1 289)) (leafV sig) (partsS sig) = root)) := by
  unfold verK; rw [decide_eq_true h]; rfl
theorem ints_cat (a b : ByteArray) (i : Nat) (h : i < a.size) : (ints (a ++ b)).getD i 0 = (ints a).getD i 0 := by
  rw [ints_append]
  simp only [List.getD_eq_getElem?_getD]
  rw [List.getElem?_append_left (by rw [ints_length]; exact h)]
theorem extract_right {a b : ByteArray} {i j : Nat} : (a ++ b).extract (a.size + i) (a.size + j) = b.extract i j := by
  apply ints_inj
  rw [ints_extract, ints_extract, ints_append]
  have hl := ints_length a
  rw [← hl, List.take_length_add_append, List.drop_length_add_append]
theorem extract_left {a b : ByteArray} {i j : Nat} (h : j ≤ a.size) : (a ++ b).extract i j = a.extract i j := by
  apply ints_inj
  rw [ints_extract, ints_extract, ints_append, List.take_append_of_le_length (by rw [ints_length]; exact h)]
theorem extract_all (a : ByteArray) : a.extract 0 a.size = a := by
  apply ints_inj
  rw [ints_extract, List.drop_zero, List.take_of_length_le (by rw [ints_length]; exact Nat.le_refl _)]
theorem byte0_hd (seed : ByteArray) {h i : Nat} (hi : i < 256) (msg : ByteArray) (k : Nat) : byte0 (signP seed h i msg k) = i := by
  unfold byte0 signP signHd
  rw [ints_cat _ _ _ (by rw [ByteArray.size_append, oneB_size]; omega), ints_cat _ _ _ (by rw [oneB_size]; omega)]
  unfold oneB
  rw [ints_str _ (by intro x hx; simp only [List.mem_singleton] at hx; omega)]
  simp
  omega
theorem leafOk_sign (seed : ByteArray) {h i : Nat} (hh : h ≤ 4) (hi : i < 2 ^ h) (msg : ByteArray) : leafOk (signK seed h i msg) := by
  have h1 := signK_size seed hi msg
  have h2 := pow_le16 hh
  refine ⟨by omega, by omega, by omega, ?_⟩
  rw [h1, show (289 + 16 * h - 289) / 16 = h by omega]
  have := byte0_hd seed (h := h) (show i < 256 by omega) msg h
  unfold signK
  rw [this]
  omega
theorem leaf_sign (seed : ByteArray) {h i : Nat} (hh : h ≤ 4) (hi : i < 2 ^ h) (msg : ByteArray) : leafV (signK seed h i msg) = i ∧ leafE (signK seed h i msg) = 0 := by
  have h1 := leaf_ok (leafOk_sign seed hh hi msg)
  have h2 := pow_le16 hh
  refine ⟨h1.1.trans ?_, h1.2⟩
  exact byte0_hd seed (show i < 256 by omega) msg h
theorem sign_mid (seed : ByteArray) (h i : Nat) (msg : ByteArray) : (signK seed h i msg).extract 1 289 = signS (seededS seed i) (aboutS (rootK seed h) i msg) := by
  unfold signK signP
  rw [extract_left (by rw [signHd_size]; exact Nat.le_refl _)]
  unfold signHd
  have h1 : (oneB (i : Int)).size = 1 := oneB_size _
  have h2 := signS_size (seededS seed i) (aboutS (rootK seed h) i msg)
  have := extract_right (a := oneB (i : Int)) (b := signS (seededS seed i) (aboutS (rootK seed h) i msg)) (i := 0) (j := 288)
  rw [h1] at this
  rw [this, ← h2]
  exact extract_all _
theorem sign_parts (seed : ByteArray) {h i : Nat} (hi : i < 2 ^ h) (msg : ByteArray) : partsS (signK seed h i msg) = pathN (leavesS seed h) i h := by
  unfold partsS
  rw [signK_size seed hi msg, show (289 + 16 * h - 289) / 16 = h by omega]
  unfold partsN pathN
  apply List.map_congr_left
  intro j hj
  have hj' := List.mem_range.1 hj
  unfold signK signP
  have h1 := signHd_size seed h i msg
  have := extract_right (a := signHd seed h i msg) (b := allS (pathAt (leavesS seed h) i) h) (i := 16 * j) (j := 16 * j + 16)
  rw [h1] at this
  rw [show 289 + 16 * j + 16 = 289 + (16 * j + 16) by omega, this]
  exact allS_part _ h (fun k hk => path_size (l := leavesS seed h) (leavesN_size _ _) (leavesS_length seed h) (by rw [leavesS_length]; exact hi) hk) j hj'
/-- WHAT IS SIGNED VERIFIES. -/
theorem verK_sign (seed : ByteArray) {h i : Nat} (hh : h ≤ 4) (hi : i < 2 ^ h) (msg : ByteArray) : verK (rootK seed h) msg (signK seed h i msg) = true := by
  have h1 := leaf_sign seed hh hi msg
  rw [ver_yes ⟨h1.2, rootK_size seed hh⟩, h1.1, sign_mid, sign_parts seed hi, from_sign]
  have h2 := up_path (leavesS_ok seed hh) (i := i) (by rw [leavesS_length]; exact hi)
  rw [leavesS_tall seed hh, leavesS, leavesN_at seed hi] at h2
  unfold leafAt at h2
  unfold leavesS
  rw [h2.1, h2.2]
  simp [rootK, leavesS]
theorem and_pow {n : Int} (h1 : 1 ≤ n) (h2 : n ≤ 16) : bits .and .i64 n (n - 1) = 0 ↔ okN n.toNat := by
  obtain ⟨m, rfl⟩ := Int.eq_ofNat_of_zero_le (show 0 ≤ n by omega)
  have h : ∀ m : Fin 17, 1 ≤ m.val → (bits .and .i64 ((m.val : Nat) : Int) (((m.val : Nat) : Int) - 1) = 0 ↔ okN m.val) := by decide +kernel
  have := h ⟨m, by omega⟩ (by show 1 ≤ m; omega)
  simpa using this
theorem pow_two {h : Nat} : (1 : Int) * 2 ^ ((h : Nat) : Int).toNat = ((2 ^ h : Nat) : Int) := by rw [Int.toNat_natCast, Int.one_mul, pow_cast]
end Go.Proofs.YtghomncegjamfaaGreat
