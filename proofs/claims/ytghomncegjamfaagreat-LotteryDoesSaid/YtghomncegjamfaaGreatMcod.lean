/- Plain mathematics of parts of messages: no program in sight. -/
import Derived.Test.YtghomncegjamfaaGreatMnum
namespace Go.Proofs.YtghomncegjamfaaGreat

def failE (e er : Int) : Int := if e = 0 then er else e

/-! ### Writing: what was written, the first error -/
abbrev WS := ByteArray × Int
def wPut (x : WS) (t : ByteArray) (right : Bool) (er : Int) : WS := if right then (x.1 ++ t, x.2) else (x.1, failE x.2 er)
def wByte (x : WS) (n : Int) : WS := wPut x (oneB n) (decide (0 ≤ n ∧ n ≤ 255)) 1
def wNum (x : WS) (n : Int) : WS := (x.1 ++ putS n, x.2)
def wBlob (x : WS) (t : ByteArray) : WS := wPut x (partS t) (decide (t.size ≤ 4096)) 5
def wHash (x : WS) (t : ByteArray) : WS := wPut x t (decide (t.size = 16)) 1
def wText (x : WS) : ByteArray := if x.2 = 0 then x.1 else ⟨#[]⟩
def wV (x : WS) : List Value := [.string x.1, .int .i64 x.2]
def w0 : WS := (⟨#[]⟩, 0)
theorem wPut_yes (x : WS) (t : ByteArray) (er : Int) : wPut x t true er = (x.1 ++ t, x.2) := rfl
theorem wPut_no (x : WS) (t : ByteArray) (er : Int) : wPut x t false er = (x.1, failE x.2 er) := rfl
theorem wByte_yes {x : WS} {n : Int} (h : 0 ≤ n ∧ n ≤ 255) : wByte x n = (x.1 ++ oneB n, x.2) := by unfold wByte; rw [decide_eq_true h]; rfl
theorem wByte_no {x : WS} {n : Int} (h : ¬ (0 ≤ n ∧ n ≤ 255)) : wByte x n = (x.1, failE x.2 1) := by unfold wByte; rw [decide_eq_false h]; rfl
theorem wBlob_yes {x : WS} {t : ByteArray} (h : t.size ≤ 4096) : wBlob x t = (x.1 ++ partS t, x.2) := by unfold wBlob; rw [decide_eq_true h]; rfl
theorem wBlob_no {x : WS} {t : ByteArray} (h : ¬ t.size ≤ 4096) : wBlob x t = (x.1, failE x.2 5) := by unfold wBlob; rw [decide_eq_false h]; rfl
theorem wHash_yes {x : WS} {t : ByteArray} (h : t.size = 16) : wHash x t = (x.1 ++ t, x.2) := by unfold wHash; rw [decide_eq_true h]; rfl
theorem wHash_no {x : WS} {t : ByteArray} (h : ¬ t.size = 16) : wHash x t = (x.1, failE x.2 1) := by unfold wHash; rw [decide_eq_false h]; rfl
theorem failE_zero {e : Int} (er : Int) (h : e = 0) : failE e er = er := by unfold failE; rw [if_pos h]
theorem failE_old {e : Int} (er : Int) (h : ¬ e = 0) : failE e er = e := by unfold failE; rw [if_neg h]
theorem partS_size' (t : ByteArray) : (partS t).size = 2 + t.size := by unfold partS; rw [ByteArray.size_append, strOfNums_size]; rfl
theorem wle_byte {x : WS} {n : Int} {a K : Nat} (h : x.1.size + (1 + a) ≤ K) : (wByte x n).1.size + a ≤ K := by
  by_cases h2 : 0 ≤ n ∧ n ≤ 255
  · rw [wByte_yes h2]; show (x.1 ++ oneB n).size + a ≤ K; rw [ByteArray.size_append, oneB_size]; omega
  · rw [wByte_no h2]; show x.1.size + a ≤ K; omega
theorem wle_num {x : WS} {n : Int} {a K : Nat} (h : x.1.size + (8 + a) ≤ K) : (wNum x n).1.size + a ≤ K := by
  show (x.1 ++ putS n).size + a ≤ K; rw [ByteArray.size_append, putS_size]; omega
theorem wle_blob {x : WS} {t : ByteArray} {a K : Nat} (h : x.1.size + (4098 + a) ≤ K) : (wBlob x t).1.size + a ≤ K := by
  by_cases h2 : t.size ≤ 4096
  · rw [wBlob_yes h2]; show (x.1 ++ partS t).size + a ≤ K; rw [ByteArray.size_append, partS_size']; omega
  · rw [wBlob_no h2]; show x.1.size + a ≤ K; omega
theorem wle_hash {x : WS} {t : ByteArray} {a K : Nat} (h : x.1.size + (16 + a) ≤ K) : (wHash x t).1.size + a ≤ K := by
  by_cases h2 : t.size = 16
  · rw [wHash_yes h2]; show (x.1 ++ t).size + a ≤ K; rw [ByteArray.size_append]; omega
  · rw [wHash_no h2]; show x.1.size + a ≤ K; omega
theorem wText_size (x : WS) : (wText x).size ≤ x.1.size := by
  unfold wText
  split
  · exact Nat.le_refl _
  · exact Nat.zero_le _

/-! ### Numbers out of bytes -/
def getP (s : ByteArray) : Nat → Int
  | 0 => 0
  | i + 1 => getP s i * 256 + (ints s).getD i 0
def getV (s : ByteArray) : Int := if s.size < 8 then 0 else getP s 8
def getE (s : ByteArray) : Int := if s.size < 8 then 3 else 0
theorem getP_range (s : ByteArray) : ∀ i, 0 ≤ getP s i ∧ getP s i < 256 ^ i
  | 0 => by simp [getP]
  | i + 1 => by
    have h1 := getP_range s i
    have h2 := ints_getD_range s i
    unfold getP
    rw [Int.pow_succ]
    omega
theorem getP_fits (s : ByteArray) (i : Nat) (h : i ≤ 8) : 0 ≤ getP s i ∧ getP s i < 18446744073709551616 := by
  have h1 := getP_range s i
  have h2 : i = 0 ∨ i = 1 ∨ i = 2 ∨ i = 3 ∨ i = 4 ∨ i = 5 ∨ i = 6 ∨ i = 7 ∨ i = 8 := by omega
  rcases h2 with rfl | rfl | rfl | rfl | rfl | rfl | rfl | rfl | rfl <;> simp only [Int.reducePow] at h1 <;> omega
theorem getP_small (s : ByteArray) (i : Nat) (h : i ≤ 7) : getP s i < 72057594037927936 := by
  have h1 := getP_range s i
  have h2 : i = 0 ∨ i = 1 ∨ i = 2 ∨ i = 3 ∨ i = 4 ∨ i = 5 ∨ i = 6 ∨ i = 7 := by omega
  rcases h2 with rfl | rfl | rfl | rfl | rfl | rfl | rfl | rfl <;> simp only [Int.reducePow] at h1 <;> omega
theorem getV_fits (s : ByteArray) : 0 ≤ getV s ∧ getV s ≤ 18446744073709551615 := by
  unfold getV
  split
  · omega
  · have := getP_fits s 8 (by decide); omega

/-! ### Reading: bytes, a place in them, the first error -/
abbrev RS := Nat × Int
def tkV (S : ByteArray) (x : RS) (n : Nat) : ByteArray := if x.2 = 0 ∧ x.1 + n ≤ S.size then S.extract x.1 (x.1 + n) else ⟨#[]⟩
def tkS (S : ByteArray) (x : RS) (n : Nat) : RS := if x.2 = 0 then (if x.1 + n ≤ S.size then (x.1 + n, 0) else (x.1, 3)) else x
def okR (S : ByteArray) (x : RS) : Prop := x.1 ≤ S.size
theorem tkS_ok {S : ByteArray} {x : RS} {n : Nat} (h : okR S x) : okR S (tkS S x n) := by
  unfold tkS okR at *
  split
  · split <;> simp_all
  · exact h
theorem tk_yes {S : ByteArray} {x : RS} {n : Nat} (h : x.2 = 0) (h2 : x.1 + n ≤ S.size) : tkV S x n = S.extract x.1 (x.1 + n) ∧ tkS S x n = (x.1 + n, 0) := by
  unfold tkV tkS; rw [if_pos ⟨h, h2⟩, if_pos h, if_pos h2]; exact ⟨rfl, rfl⟩
theorem tk_short {S : ByteArray} {x : RS} {n : Nat} (h : x.2 = 0) (h2 : ¬ x.1 + n ≤ S.size) : tkV S x n = ⟨#[]⟩ ∧ tkS S x n = (x.1, 3) := by
  unfold tkV tkS; rw [if_neg (fun h3 => h2 h3.2), if_pos h, if_neg h2]; exact ⟨rfl, rfl⟩
theorem tk_bad {S : ByteArray} {x : RS} {n : Nat} (h : ¬ x.2 = 0) : tkV S x n = ⟨#[]⟩ ∧ tkS S x n = x := by
  unfold tkV tkS; rw [if_neg (fun h3 => h h3.1), if_neg h]; exact ⟨rfl, rfl⟩
theorem tkV_size (S : ByteArray) (x : RS) (n : Nat) : (tkV S x n).size = 0 ∨ (tkV S x n).size = n := by
  unfold tkV
  split
  · rename_i h; right; rw [ByteArray.size_extract]; omega
  · left; rfl
def head (s : ByteArray) : Int := (ints s).getD 0 0
def byV (S : ByteArray) (x : RS) : Int := head (tkV S x 1)
def byS (S : ByteArray) (x : RS) : RS := tkS S x 1
def nuV (S : ByteArray) (x : RS) : Int := getV (tkV S x 8)
def nuS (S : ByteArray) (x : RS) : RS := tkS S x 8
def haV (S : ByteArray) (x : RS) : ByteArray := tkV S x 16
def haS (S : ByteArray) (x : RS) : RS := tkS S x 16
def two (s : ByteArray) : Int := (ints s).getD 0 0 * 256 + (ints s).getD 1 0
def lenV (S : ByteArray) (x : RS) : Nat := (two (tkV S x 2)).toNat
/-- Behind the length. -/
def blT (S : ByteArray) (x : RS) (most : Int) : RS := if most < lenV S x ∨ 4096 < lenV S x then ((tkS S x 2).1, failE (tkS S x 2).2 5) else tkS S x 2
def blV (S : ByteArray) (x : RS) (most : Int) : ByteArray := if (tkS S x 2).2 = 0 then tkV S (blT S x most) (lenV S x) else ⟨#[]⟩
def blS (S : ByteArray) (x : RS) (most : Int) : RS := if (tkS S x 2).2 = 0 then (if (tkS S (blT S x most) (lenV S x)).2 = 0 then tkS S (blT S x most) (lenV S x) else (x.1, (tkS S (blT S x most) (lenV S x)).2)) else tkS S x 2
def flS (x : RS) (er : Int) : RS := (x.1, failE x.2 er)
def endE (S : ByteArray) (x : RS) : Int := if x.2 = 0 ∧ x.1 < S.size then 4 else x.2
theorem head_range (s : ByteArray) : 0 ≤ head s ∧ head s ≤ 255 := ints_getD_range s 0
theorem byV_range (S : ByteArray) (x : RS) : 0 ≤ byV S x ∧ byV S x ≤ 255 := head_range _
theorem nuV_range (S : ByteArray) (x : RS) : 0 ≤ nuV S x ∧ nuV S x ≤ 18446744073709551615 := getV_fits _
theorem two_range (s : ByteArray) : 0 ≤ two s ∧ two s ≤ 65535 := by
  have h1 := ints_getD_range s 0
  have h2 := ints_getD_range s 1
  unfold two
  omega
theorem lenV_range (S : ByteArray) (x : RS) : lenV S x ≤ 65535 := by have := two_range (tkV S x 2); unfold lenV; omega
theorem byS_ok {S : ByteArray} {x : RS} (h : okR S x) : okR S (byS S x) := tkS_ok h
theorem nuS_ok {S : ByteArray} {x : RS} (h : okR S x) : okR S (nuS S x) := tkS_ok h
theorem haS_ok {S : ByteArray} {x : RS} (h : okR S x) : okR S (haS S x) := tkS_ok h
theorem flS_ok {S : ByteArray} {x : RS} {er : Int} (h : okR S x) : okR S (flS x er) := h
theorem blT_ok {S : ByteArray} {x : RS} {most : Int} (h : okR S x) : okR S (blT S x most) := by
  have h1 := tkS_ok (n := 2) h
  unfold blT
  split
  · exact h1
  · exact h1
theorem blS_ok {S : ByteArray} {x : RS} {most : Int} (h : okR S x) : okR S (blS S x most) := by
  have h1 := tkS_ok (n := 2) h
  have h2 := tkS_ok (n := lenV S x) (blT_ok (most := most) h)
  unfold blS
  split
  · split
    · exact h2
    · exact h
  · exact h1
end Go.Proofs.YtghomncegjamfaaGreat
