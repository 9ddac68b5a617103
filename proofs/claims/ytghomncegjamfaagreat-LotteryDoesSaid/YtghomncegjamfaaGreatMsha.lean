/- Plain mathematics of the sums: no program in sight. -/
import Derived.Laws.Entries
import Derived.Laws.BytesArg
namespace Go.Proofs.YtghomncegjamfaaGreat

/-! ### Bytes -/
def ints (s : ByteArray) : List Int := s.data.toList.map fun b => (b.toNat : Int)
theorem ints_length (s : ByteArray) : (ints s).length = s.size := by unfold ints; rw [List.length_map, Array.length_toList]; rfl
theorem ints_append (s t : ByteArray) : ints (s ++ t) = ints s ++ ints t := by simp [ints]
theorem ints_extract (s : ByteArray) (i j : Nat) : ints (s.extract i j) = ((ints s).take j).drop i := by
  simp only [ints, ByteArray.data_extract, Array.toList_extract, List.extract_eq_take_drop, List.map_take, List.map_drop]
  rw [List.drop_take]
theorem ints_range {s : ByteArray} {x : Int} (h : x ∈ ints s) : 0 ≤ x ∧ x ≤ 255 := by
  simp only [ints, List.mem_map] at h
  obtain ⟨b, _, rfl⟩ := h
  have := UInt8.toNat_lt b
  omega
theorem ints_getD_range (s : ByteArray) (i : Nat) : 0 ≤ (ints s).getD i 0 ∧ (ints s).getD i 0 ≤ 255 := by
  rw [List.getD_eq_getElem?_getD]
  cases h : (ints s)[i]? with
  | none => simp
  | some x => exact ints_range (List.mem_of_getElem? h)
theorem ints_str (ns : List Int) (h : ∀ x ∈ ns, 0 ≤ x ∧ x ≤ 255) : ints (strOfNums ns) = ns := by
  unfold ints strOfNums
  simp only [List.map_map]
  conv => rhs; rw [← List.map_id ns]
  apply List.map_congr_left
  intro x hx
  have := h x hx
  simp only [Function.comp, id, UInt8.toNat_ofNat']
  omega
theorem ints_inj {s t : ByteArray} (h : ints s = ints t) : s = t := by
  have h1 : s.data.toList = t.data.toList := by
    have hinj : ∀ (l m : List UInt8), l.map (fun b => (b.toNat : Int)) = m.map (fun b => (b.toNat : Int)) → l = m := by
      intro l
      induction l with
      | nil => intro m hm; cases m <;> simp_all
      | cons a l ih =>
        intro m hm
        cases m with
        | nil => simp at hm
        | cons b m =>
          simp only [List.map_cons, List.cons.injEq] at hm
          have : a = b := UInt8.toNat_inj.1 (by exact_mod_cast hm.1)
          rw [this, ih m hm.2]
    exact hinj _ _ h
  have h2 : s.data = t.data := Array.toList_inj.1 h1
  cases s; cases t; simp_all
theorem str_ints (s : ByteArray) : strOfNums (ints s) = s := ints_inj (ints_str _ fun _ hx => ints_range hx)

/-! ### Words -/
def rotr (x q : Int) : Int := bits .or .u32 (x / 2 ^ q.toNat) (x * 2 ^ (32 - q).toNat % 4294967296)
def lowS0 (x : Int) : Int := bits .xor .u32 (bits .xor .u32 (rotr x 7) (rotr x 18)) (x / 8)
def lowS1 (x : Int) : Int := bits .xor .u32 (bits .xor .u32 (rotr x 17) (rotr x 19)) (x / 1024)
def bigS0 (x : Int) : Int := bits .xor .u32 (bits .xor .u32 (rotr x 2) (rotr x 13)) (rotr x 22)
def bigS1 (x : Int) : Int := bits .xor .u32 (bits .xor .u32 (rotr x 6) (rotr x 11)) (rotr x 25)
def chF (e f g : Int) : Int := bits .xor .u32 (bits .and .u32 e f) (bits .and .u32 (bits .xor .u32 4294967295 e) g)
def majF (a b c : Int) : Int := bits .xor .u32 (bits .xor .u32 (bits .and .u32 a b) (bits .and .u32 a c)) (bits .and .u32 b c)
def kTab : List Int := [
  1116352408, 1899447441, 3049323471, 3921009573, 961987163, 1508970993, 2453635748, 2870763221,
  3624381080, 310598401, 607225278, 1426881987, 1925078388, 2162078206, 2614888103, 3248222580,
  3835390401, 4022224774, 264347078, 604807628, 770255983, 1249150122, 1555081692, 1996064986,
  2554220882, 2821834349, 2952996808, 3210313671, 3336571891, 3584528711, 113926993, 338241895,
  666307205, 773529912, 1294757372, 1396182291, 1695183700, 1986661051, 2177026350, 2456956037,
  2730485921, 2820302411, 3259730800, 3345764771, 3516065817, 3600352804, 4094571909, 275423344,
  430227734, 506948616, 659060556, 883997877, 958139571, 1322822218, 1537002063, 1747873779,
  1955562222, 2024104815, 2227730452, 2361852424, 2428436474, 2756734187, 3204031479, 3329325298]
def st0 : List Int := [1779033703, 3144134277, 1013904242, 2773480762, 1359893119, 2600822924, 528734635, 1541459225]
def be4 (blk : List Int) (t : Nat) : Int := blk.getD (4 * t) 0 * 16777216 + blk.getD (4 * t + 1) 0 * 65536 + blk.getD (4 * t + 2) 0 * 256 + blk.getD (4 * t + 3) 0
def wnext (blk ws : List Int) (t : Nat) : Int :=
  if t < 16 then be4 blk t
  else (((lowS1 (ws.getD (t - 2) 0) + ws.getD (t - 7) 0) % 4294967296 + lowS0 (ws.getD (t - 15) 0)) % 4294967296 + ws.getD (t - 16) 0) % 4294967296
def wds (blk : List Int) : Nat → List Int
  | 0 => []
  | t + 1 => wds blk t ++ [wnext blk (wds blk t) t]
theorem wds_length (blk : List Int) (t : Nat) : (wds blk t).length = t := by induction t with | zero => rfl | succ t ih => simp [wds, ih]
/-- The words so far, and noughts. -/
def wpad (blk : List Int) (t : Nat) : List Int := wds blk t ++ List.replicate (64 - t) 0
theorem wpad_length (blk : List Int) (t : Nat) (h : t ≤ 64) : (wpad blk t).length = 64 := by simp [wpad, wds_length]; omega
theorem wpad_set (blk : List Int) (t : Nat) (h : t < 64) : (wpad blk t).set t (wnext blk (wds blk t) t) = wpad blk (t + 1) := by
  unfold wpad
  rw [List.set_append_right _ _ (by simp [wds_length]), wds_length, Nat.sub_self, show 64 - t = (64 - (t + 1)) + 1 by omega, List.replicate_succ]
  simp [wds]
theorem wpad_getD (blk : List Int) (t i : Nat) (h : i < t) : (wpad blk t).getD i 0 = (wds blk t).getD i 0 := by
  unfold wpad
  simp only [List.getD_eq_getElem?_getD]
  rw [List.getElem?_append_left (by rw [wds_length]; exact h)]

structure S8 where
  a : Int
  b : Int
  c : Int
  d : Int
  e : Int
  f : Int
  g : Int
  h : Int
def rnd (k w : Int) (v : S8) : S8 :=
  let p := ((((v.h + bigS1 v.e) % 4294967296 + chF v.e v.f v.g) % 4294967296 + k) % 4294967296 + w) % 4294967296
  let q := (bigS0 v.a + majF v.a v.b v.c) % 4294967296
  ⟨(p + q) % 4294967296, v.a, v.b, v.c, (v.d + p) % 4294967296, v.e, v.f, v.g⟩
def s8 (st : List Int) : S8 := ⟨st.getD 0 0, st.getD 1 0, st.getD 2 0, st.getD 3 0, st.getD 4 0, st.getD 5 0, st.getD 6 0, st.getD 7 0⟩
def S8.list (v : S8) : List Int := [v.a, v.b, v.c, v.d, v.e, v.f, v.g, v.h]
def rnds (ws : List Int) (v : S8) : Nat → S8
  | 0 => v
  | t + 1 => rnd (kTab.getD t 0) (ws.getD t 0) (rnds ws v t)
def plus8 : List Int → List Int → List Int
  | x :: xs, y :: ys => (x + y) % 4294967296 :: plus8 xs ys
  | _, _ => []
def compress (st blk : List Int) : List Int := plus8 st (rnds (wds blk 64) (s8 st) 64).list
theorem plus8_length : ∀ (xs ys : List Int), xs.length = ys.length → (plus8 xs ys).length = xs.length
  | [], [], _ => rfl
  | x :: xs, y :: ys, h => by simp [plus8, plus8_length xs ys (by simpa using h)]
  | [], _ :: _, h => by simp at h
  | _ :: _, [], h => by simp at h
theorem compress_length (st blk : List Int) (h : st.length = 8) : (compress st blk).length = 8 := by unfold compress; rw [plus8_length] <;> simp [S8.list, h]
/-- So many blocks of 64 bytes taken into a state. -/
def absorb : Nat → List Int → List Int → List Int
  | 0, st, _ => st
  | k + 1, st, l => absorb k (compress st (l.take 64)) (l.drop 64)
theorem absorb_length : ∀ (k : Nat) (st l : List Int), st.length = 8 → (absorb k st l).length = 8
  | 0, _, _, h => h
  | k + 1, st, _, h => absorb_length k _ _ (compress_length st _ h)
theorem absorb_succ : ∀ (k : Nat) (st l : List Int), absorb (k + 1) st l = compress (absorb k st l) ((l.drop (64 * k)).take 64)
  | 0, st, l => by simp [absorb]
  | k + 1, st, l => by
    rw [absorb, absorb_succ k]
    simp only [absorb, List.drop_drop]
    rw [show 64 + 64 * k = 64 * (k + 1) by omega]
theorem absorb_add : ∀ (j k : Nat) (st l : List Int), absorb (j + k) st l = absorb k (absorb j st l) (l.drop (64 * j))
  | 0, k, st, l => by simp [absorb]
  | j + 1, k, st, l => by
    rw [show j + 1 + k = (j + k) + 1 by omega, absorb, absorb_add j k, absorb, List.drop_drop, show 64 + 64 * j = 64 * (j + 1) by omega]
/-- Only the first 64 k bytes count. -/
theorem absorb_take : ∀ (k : Nat) (st l m : List Int), l.take (64 * k) = m.take (64 * k) → absorb k st l = absorb k st m
  | 0, _, _, _, _ => rfl
  | k + 1, st, l, m, h => by
    unfold absorb
    have h1 : l.take 64 = m.take 64 := by
      have := congrArg (List.take 64) h
      simpa [List.take_take, show min 64 (64 * (k + 1)) = 64 by omega] using this
    have h2 : (l.drop 64).take (64 * k) = (m.drop 64).take (64 * k) := by
      have := congrArg (List.drop 64) h
      rwa [List.drop_take, List.drop_take, show 64 * (k + 1) - 64 = 64 * k by omega] at this
    rw [h1, absorb_take k _ _ _ h2]
/-- What is behind the blocks. -/
def rest64 (s : ByteArray) : ByteArray := s.extract (64 * (s.size / 64)) s.size
def state64 (s : ByteArray) : List Int := absorb (s.size / 64) st0 (ints s)
theorem rest64_size (s : ByteArray) : (rest64 s).size = s.size % 64 := by
  simp [rest64]; omega
def lenBytes (n : Nat) : List Int := [((n * 8 / 72057594037927936 % 256 : Nat) : Int), ((n * 8 / 281474976710656 % 256 : Nat) : Int), ((n * 8 / 1099511627776 % 256 : Nat) : Int), ((n * 8 / 4294967296 % 256 : Nat) : Int), ((n * 8 / 16777216 % 256 : Nat) : Int), ((n * 8 / 65536 % 256 : Nat) : Int), ((n * 8 / 256 % 256 : Nat) : Int), ((n * 8 % 256 : Nat) : Int)]
/-- How many noughts. -/
def zeros (n : Nat) : Nat := (119 - n % 64) % 64
def padL (n : Nat) : List Int := 128 :: List.replicate (zeros n) 0 ++ lenBytes n
def outW (x : Int) : List Int := [x / 16777216 % 256, x / 65536 % 256, x / 256 % 256, x % 256]
def outL (st : List Int) : List Int := st.flatMap outW
def padded (s : ByteArray) : List Int := ints s ++ padL s.size
/-- THE SUM. -/
def sumS (s : ByteArray) : ByteArray := strOfNums (outL (absorb ((padded s).length / 64) st0 (padded s)))
def shortS (s : ByteArray) : ByteArray := (sumS s).extract 0 16
def oneB (n : Int) : ByteArray := strOfNums [n % 256]
def partS (p : ByteArray) : ByteArray := strOfNums [(p.size : Int) / 256 % 256, (p.size : Int) % 256] ++ p
def tagText (word : ByteArray) : List ByteArray → ByteArray
  | [] => oneB word.size ++ word
  | l => l.foldl (fun s p => s ++ partS p) (oneB word.size ++ word)
def tagS (word : ByteArray) (parts : List ByteArray) : ByteArray := shortS (parts.foldl (fun s p => s ++ partS p) (oneB word.size ++ word))
def hexD (n : Int) : Int := if n < 10 then 48 + n else 87 + n
def hexS (s : ByteArray) : ByteArray := strOfNums ((ints s).flatMap fun c => [hexD (c / 16), hexD (c % 16)])

theorem zeros_spec (n : Nat) : (n + 1 + zeros n + 8) % 64 = 0 ∧ zeros n < 64 := by unfold zeros; omega
theorem padL_length (n : Nat) : (padL n).length = zeros n + 9 := by simp [padL, lenBytes]
theorem padded_length (s : ByteArray) : (padded s).length = s.size + 9 + zeros s.size := by simp [padded, ints_length, padL_length]; omega
theorem padded_mod (s : ByteArray) : (padded s).length % 64 = 0 := by rw [padded_length]; have := zeros_spec s.size; omega
theorem outL_length : ∀ (st : List Int), (outL st).length = 4 * st.length
  | [] => rfl
  | x :: xs => by have := outL_length xs; simp [outL, outW] at this ⊢; omega
theorem sumS_size (s : ByteArray) : (sumS s).size = 32 := by unfold sumS; rw [strOfNums_size, outL_length, absorb_length _ _ _ rfl]
theorem shortS_size (s : ByteArray) : (shortS s).size = 16 := by unfold shortS; simp [sumS_size]
theorem tagS_size (word : ByteArray) (parts : List ByteArray) : (tagS word parts).size = 16 := shortS_size _

/-! ### Bits -/
theorem wrap32_nat (m : Nat) (h : m < 4294967296) : IntKind.u32.wrap (m : Int) = m := by
  simp [IntKind.wrap, IntKind.bits, IntKind.signed]; omega
theorem bits_or32 (x y : Int) : bits .or .u32 x y = ((BitVec.ofInt 32 x ||| BitVec.ofInt 32 y).toNat : Int) := wrap32_nat _ (BitVec.isLt _)
theorem bits_xor32 (x y : Int) : bits .xor .u32 x y = ((BitVec.ofInt 32 x ^^^ BitVec.ofInt 32 y).toNat : Int) := wrap32_nat _ (BitVec.isLt _)
theorem bits_and32 (x y : Int) : bits .and .u32 x y = ((BitVec.ofInt 32 x &&& BitVec.ofInt 32 y).toNat : Int) := wrap32_nat _ (BitVec.isLt _)
theorem ofInt32_toNat (a : Nat) (h : a < 4294967296) : (BitVec.ofInt 32 (a : Int)).toNat = a := by
  rw [BitVec.ofInt_natCast, BitVec.toNat_ofNat]; omega
theorem bits_or_add (x c : Int) (hx : 0 ≤ x) (hx2 : x < 16777216) (hc : 0 ≤ c) (hc2 : c < 256) : bits .or .u32 (x * 256 % 4294967296) c = x * 256 + c := by
  obtain ⟨a, rfl⟩ := Int.eq_ofNat_of_zero_le hx
  obtain ⟨b, rfl⟩ := Int.eq_ofNat_of_zero_le hc
  have h1 : ((a : Int) * 256 % 4294967296) = ((a * 256 : Nat) : Int) := by omega
  have h4 : a * 256 ||| b = a * 256 + b := by
    have := Nat.shiftLeft_add_eq_or_of_lt (i := 8) (b := b) (by omega) a
    rw [Nat.shiftLeft_eq] at this
    exact this.symm
  rw [bits_or32, h1, BitVec.toNat_or, ofInt32_toNat _ (by omega), ofInt32_toNat _ (by omega), h4]
  omega
theorem bits_not (e : Int) (h0 : 0 ≤ e) (h1 : e < 4294967296) : bits .xor .u32 4294967295 e = 4294967295 - e := by
  obtain ⟨a, rfl⟩ := Int.eq_ofNat_of_zero_le h0
  have h2 : BitVec.ofInt 32 4294967295 = BitVec.allOnes 32 := by decide
  rw [bits_xor32, h2, BitVec.allOnes_xor, BitVec.toNat_not, ofInt32_toNat _ (by omega)]
  omega

/-! ### Taking bytes in parts -/
theorem state64_length (s : ByteArray) : (state64 s).length = 8 := absorb_length _ _ _ rfl
theorem ints_rest (s : ByteArray) : ints (rest64 s) = (ints s).drop (64 * (s.size / 64)) := by
  rw [rest64, ints_extract, List.take_of_length_le (by rw [ints_length]; exact Nat.le_refl _)]
theorem ints_rest_append (t s : ByteArray) : ints (rest64 t ++ s) = (ints (t ++ s)).drop (64 * (t.size / 64)) := by
  rw [ints_append, ints_append, ints_rest, List.drop_append_of_le_length (by rw [ints_length]; omega)]
theorem rest_append_size (t s : ByteArray) : (rest64 t ++ s).size = t.size % 64 + s.size := by rw [ByteArray.size_append, rest64_size]
theorem state64_append (t s : ByteArray) : state64 (t ++ s) = absorb ((rest64 t ++ s).size / 64) (state64 t) (ints (rest64 t ++ s)) := by
  have h1 : (t ++ s).size / 64 = t.size / 64 + (rest64 t ++ s).size / 64 := by rw [rest_append_size, ByteArray.size_append]; omega
  unfold state64
  rw [h1, absorb_add, ← ints_rest_append]
  congr 1
  apply absorb_take
  rw [ints_append, List.take_append_of_le_length (by rw [ints_length]; omega)]
theorem rest64_append (t s : ByteArray) : rest64 (t ++ s) = (rest64 t ++ s).extract (64 * ((rest64 t ++ s).size / 64)) (rest64 t ++ s).size := by
  have h1 : (t ++ s).size / 64 = t.size / 64 + (rest64 t ++ s).size / 64 := by rw [rest_append_size, ByteArray.size_append]; omega
  apply ints_inj
  rw [ints_rest, ints_extract, List.take_of_length_le (by rw [ints_length]; exact Nat.le_refl _), ints_rest_append, List.drop_drop, h1]
  congr 1
  omega
/-- What a sum's object holds. -/
def hashV (s : ByteArray) : List Value := (state64 s).map (.int .u32) ++ [.string (rest64 s), .int .i64 s.size]
theorem hashV_length (s : ByteArray) : (hashV s).length = 10 := by simp [hashV, state64_length]
theorem hashV_left (s : ByteArray) : (hashV s)[8]? = some (.string (rest64 s)) := by
  unfold hashV; rw [List.getElem?_append_right (by simp [state64_length])]; simp [state64_length]
theorem hashV_n (s : ByteArray) : (hashV s)[9]? = some (.int .i64 s.size) := by
  unfold hashV; rw [List.getElem?_append_right (by simp [state64_length])]; simp [state64_length]
theorem hashV_st (s : ByteArray) : ((hashV s).drop 0).take 8 = (state64 s).map (.int .u32) := by
  unfold hashV; rw [List.drop_zero, List.take_append_of_le_length (by simp [state64_length]), List.take_of_length_le (by simp [state64_length])]
def finS (s : ByteArray) : List Int := absorb ((padded s).length / 64) st0 (padded s)
theorem finS_length (s : ByteArray) : (finS s).length = 8 := absorb_length _ _ _ rfl
theorem lenBytes_range (n : Nat) : ∀ x ∈ lenBytes n, 0 ≤ x ∧ x ≤ 255 := by
  intro x hx
  simp only [lenBytes, List.mem_cons, List.not_mem_nil, or_false] at hx
  omega
theorem padL_range (n : Nat) : ∀ x ∈ padL n, 0 ≤ x ∧ x ≤ 255 := by
  intro x hx
  simp only [padL, List.cons_append, List.mem_cons, List.mem_append, List.mem_replicate] at hx
  rcases hx with rfl | ⟨_, rfl⟩ | hx
  · omega
  · omega
  · exact lenBytes_range n x hx
theorem state64_pad (s : ByteArray) : state64 (s ++ strOfNums (padL s.size)) = finS s := by
  unfold state64 finS
  have h1 : ints (s ++ strOfNums (padL s.size)) = padded s := by rw [ints_append, ints_str _ (padL_range _)]; rfl
  rw [← h1, ints_length]
theorem lenB_eq (n k : Nat) (hk : k < 8) (hn : n * 8 < 18446744073709551616) : ((n : Int) * 8 % 18446744073709551616) / 2 ^ (8 * (7 - (k : Int))).toNat % 256 = (lenBytes n).getD k 0 := by
  have h0 : ((n : Int) * 8 % 18446744073709551616) = n * 8 := by omega
  rw [h0]
  match k, hk with
  | 0, _ => simp [lenBytes]
  | 1, _ => simp [lenBytes]
  | 2, _ => simp [lenBytes]
  | 3, _ => simp [lenBytes]
  | 4, _ => simp [lenBytes]
  | 5, _ => simp [lenBytes]
  | 6, _ => simp [lenBytes]
  | 7, _ => simp [lenBytes]
theorem lenBytes_take (n k : Nat) (hk : k < 8) : (lenBytes n).take (k + 1) = (lenBytes n).take k ++ [(lenBytes n).getD k 0] := by
  rw [List.take_add_one, List.getD_eq_getElem?_getD, List.getElem?_eq_getElem (by simpa [lenBytes] using hk)]; rfl
theorem take_next (l : List Int) (k : Nat) (hk : k < l.length) : l.take (k + 1) = l.take k ++ [l.getD k 0] := by
  rw [List.take_add_one, List.getD_eq_getElem?_getD, List.getElem?_eq_getElem hk]; rfl
theorem outL_append (a b : List Int) : outL (a ++ b) = outL a ++ outL b := by simp [outL]
theorem all1 {p : ByteArray} {n : Nat} (h : p.size ≤ n) : ∀ q ∈ [p], q.size ≤ n := by intro q hq; rw [List.mem_singleton.1 hq]; exact h
theorem all2 {p p' : ByteArray} {n : Nat} (h : p.size ≤ n) (h' : p'.size ≤ n) : ∀ q ∈ [p, p'], q.size ≤ n := by
  intro q hq; simp only [List.mem_cons, List.not_mem_nil, or_false] at hq; rcases hq with rfl | rfl <;> assumption
theorem oneB_size (n : Int) : (oneB n).size = 1 := by simp [oneB, strOfNums_size]
end Go.Proofs.YtghomncegjamfaaGreat
