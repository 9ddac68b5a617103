/- The walks of package sha, part two: what takes bytes in parts. Written by program (walk.py) out of a table of contracts and invariants. -/
import Derived.Test.YtghomncegjamfaaGreatSha
namespace Go.Proofs.YtghomncegjamfaaGreat
open Go.RowKit
set_option maxRecDepth 100000
set_option linter.unusedVariables false
set_option linter.unusedSimpArgs false
attribute [local irreducible] Yields Makes Writes
theorem empty_size : (⟨#[]⟩ : ByteArray).size = 0 := rfl
theorem empty_app (s : ByteArray) : (⟨#[]⟩ : ByteArray) ++ s = s := ByteArray.empty_append
theorem hashV_empty : st0.map (Value.int .u32) ++ [.string ⟨#[]⟩, .int .i64 0] = hashV ⟨#[]⟩ := by
  have h1 : state64 ⟨#[]⟩ = st0 := rfl
  have h2 : rest64 ⟨#[]⟩ = ⟨#[]⟩ := rfl
  simp [hashV, h1, h2]; rfl
/-- What lies behind so many blocks. -/
def lf (L : ByteArray) (i : Nat) : ByteArray := L.extract (64 * i) L.size
theorem lf_zero (L : ByteArray) : lf L 0 = L := by simp [lf]
theorem lf_size (L : ByteArray) (i : Nat) : (lf L i).size = L.size - 64 * i := by simp [lf]
theorem lf_succ (L : ByteArray) (i : Nat) (h : 64 * (i + 1) ≤ L.size) : (lf L i).extract 64 (lf L i).size = lf L (i + 1) := by
  apply ints_inj
  rw [lf_size]
  simp only [lf, ints_extract]
  have hl : (ints L).length = L.size := ints_length L
  rw [List.take_of_length_le (i := L.size) (by omega), List.take_of_length_le (by simp [hl]), List.drop_drop, Nat.mul_succ]
theorem lf_block (L : ByteArray) (i : Nat) : ints ((lf L i).extract 0 64) = ((ints L).drop (64 * i)).take 64 := by
  simp only [lf, ints_extract]
  rw [List.take_of_length_le (i := L.size) (by rw [ints_length]; exact Nat.le_refl _), List.drop_zero]
def stI (t s : ByteArray) (i : Nat) : List Int := absorb i (state64 t) (ints (rest64 t ++ s))
theorem stI_length (t s : ByteArray) (i : Nat) : (stI t s i).length = 8 := absorb_length _ _ _ (state64_length t)
theorem hashV_done (t s : ByteArray) : (stI t s ((rest64 t ++ s).size / 64)).map (.int .u32) ++ [.string (lf (rest64 t ++ s) ((rest64 t ++ s).size / 64)), .int .i64 ((t.size + s.size : Nat) : Int)] = hashV (t ++ s) := by
  unfold hashV
  rw [state64_append, rest64_append, ByteArray.size_append (a := t)]
  rfl
theorem set_left (st : List Int) (h : st.length = 8) (a b v : Value) : (st.map (Value.int .u32) ++ [a, b]).set 8 v = st.map (Value.int .u32) ++ [v, b] := by
  rw [List.set_append_right _ _ (by simp [h])]; simp [h]
theorem set_n (st : List Int) (h : st.length = 8) (a b v : Value) : (st.map (Value.int .u32) ++ [a, b]).set 9 v = st.map (Value.int .u32) ++ [a, v] := by
  rw [List.set_append_right _ _ (by simp [h])]; simp [h]
theorem get_left (st : List Int) (h : st.length = 8) (a b : Value) : (st.map (Value.int .u32) ++ [a, b])[8]? = some a := by
  rw [List.getElem?_append_right (by simp [h])]; simp [h]
theorem get_n (st : List Int) (h : st.length = 8) (a b : Value) : (st.map (Value.int .u32) ++ [a, b])[9]? = some b := by
  rw [List.getElem?_append_right (by simp [h])]; simp [h]

theorem new_any (w : World) :
  Calls Tryz.prog 117 #[] w fun e w' => ∃ b, e = .returned (.pointer (some ⟨b, 0, none⟩)) ∧ Fresh w w' (.cells b (hashV ⟨#[]⟩)) := by
 refine calls_of (n := 4) (E := []) (W := Hp w [] []) Tryz.func117 rfl rfl (Nat.le_of_ble_eq_true rfl) rfl (Hp.nil _ _) ?_; refine jsr ?_; refine jz ?_; refine jnt ?_; refine jsr ?_; refine jpc (goes_func rfl) (fun w1 hw1 => begin_any w1) ?_; refine jy (y_build (Built.agg rfl rfl rfl (by repeat constructor) Built.nil)) ?_; refine jl_m rfl (by decide) rfl (m_box rfl rfl) (fun b3 => ?_); refine jz ?_; refine jnt ?_; refine jc_ret ?_; refine jq_ret1 rfl rfl ?_; exact fun w' hw => ⟨b3, rfl, (hw.cast (by rw [← hashV_empty]; rfl)).fresh⟩

theorem write_any (b : Nat) (t s : ByteArray) (w : World) (hs : t.size + s.size ≤ 9223372036854775807) (hs2 : s.size + 64 ≤ 9223372036854775807) (h0 : HA.ok w (.cells b (hashV t))) :
  Calls Tryz.prog 118 #[.pointer (some ⟨b, 0, none⟩), .string s] w fun e w' => e = .returned (.tuple #[]) ∧ Upd w w' (.cells b (hashV t)) (.cells b (hashV (t ++ s))) := by
 have hr := rest64_size t
 have hL := rest_append_size t s
 have hst := state64_length t
 refine calls_of (n := 44) (E := [(0, .pointer (some ⟨b, 0, none⟩)), (1, .string s)]) (W := Hp w [b] [.cells b ((state64 t).map (.int .u32) ++ [.string (rest64 t), .int .i64 ((t.size : Nat))])]) Tryz.func118 rfl rfl (Nat.le_of_ble_eq_true rfl) rfl (Hp.start rfl h0) ?_; refine jc_scope (ι := Nat) 0 (fun i => [(0, .pointer (some ⟨b, 0, none⟩))]) (fun i => fun w' => 64 * i ≤ (rest64 t ++ s).size ∧ Hp w [b] [.cells b ((stI t s i).map (.int .u32) ++ [.string (lf (rest64 t ++ s) i), .int .i64 (((t.size + s.size : Nat) : Int))])] w') (fun i => (rest64 t ++ s).size - 64 * i) rfl (fun again => ?_) ?_
 ·skip
  refine jsr ?_; (iterate 3 refine jz ?_); refine jy (y_load rfl mem0 (get_n _ hst _ _)) ?_; refine jz ?_; refine jy (y_len_str rfl) ?_; refine jy (yaf rfl rfl) ?_; (iterate 2 refine jz ?_); refine jl_w rfl rfl (w_store rfl rfl rfl (by simp [hst]) rep0) ?_; refine jnt ?_; refine jsr ?_; (iterate 3 refine jz ?_); refine jy (y_load rfl mem0 ((congrArg (·[8]?) (set_n _ hst _ _ _)).trans (get_left _ hst _ _))) ?_; refine jz ?_; refine jy (y_concat rfl rfl (by first | omega | (simp only [ByteArray.size_append]; omega))) ?_; (iterate 2 refine jz ?_); refine jl_w rfl rfl (w_store rfl rfl rfl (by simp [hst]) rep0) ?_; refine jnt ?_; refine jc_seq ?_; refine jc_label ?_; refine jq_then ?_; refine jc_weaken ?_ (jc_world ?_ (again 0))
  ·exact ⟨rfl, trivial⟩
  ·exact fun _ h => ⟨by omega, h.cast (by rw [set_n _ hst, set_left _ hst, lf_zero]; rfl)⟩
 ·rintro i
  refine jc_and (fun hi => ?_)
  have hls := lf_size (rest64 t ++ s) i
  refine jsr ?_; (iterate 3 refine jz ?_); refine jy (y_load rfl mem0 (get_left _ (stI_length t s i) _ _)) ?_; refine jy (y_len_str rfl) ?_; refine jy (y_geq rfl rfl) ?_; refine jl_prop (fun h26 => ?_) (fun h26 => ?_)
  ·first | (exfalso; omega) | (
    refine jnt ?_; refine jc_true rfl ?_; refine jc_seq ?_; refine jc_tail 8 (by kernel_rfl) (fun _ h => h.drew) ?_
    simp only [List.take_succ_cons, List.take_zero, List.drop_succ_cons, List.drop_zero]
    (iterate 6 refine jtz ?_); refine jty (y_load rfl mem0 (get_left _ (stI_length t s i) _ _)) ?_; refine jty (y_substr_hi rfl rfl (by omega) (by omega)) ?_; refine jt_nil ?_; refine juc (goes_func rfl) (fun w1 hw1 => mix_any _ _ _ ((lf (rest64 t ++ s) i).extract 0 64) w1 (stI_length t s i) (by rw [ByteArray.size_extract]; omega) hw1) ?_; refine jnt ?_; refine jsr ?_; (iterate 4 refine jz ?_); refine jy (y_load rfl mem0 (get_left _ (compress_length _ _ (stI_length t s i)) _ _)) ?_; refine jy (y_substr_lo rfl rfl (by omega) (by omega)) ?_; (iterate 2 refine jz ?_); refine jl_w rfl rfl (w_store rfl rfl rfl (by simp [compress_length _ _ (stI_length t s i)]) rep0) ?_; refine jnt ?_; refine jc_goto ?_; refine jq_jump (ι := Nat) (i + 1) ?_ ?_ ?_
    ·omega
    ·exact ⟨rfl, trivial⟩
    ·exact fun _ h => ⟨by omega, h.cast (by rw [set_left _ (compress_length _ _ (stI_length t s i)), show stI t s (i + 1) = compress (stI t s i) (ints ((lf (rest64 t ++ s) i).extract 0 64)) by rw [lf_block, stI, absorb_succ]; rfl, ← lf_succ _ _ (by omega)]; rfl)⟩
    )
  ·first | (exfalso; omega) | (refine jnt ?_; refine jc_false rfl ?_; refine jc_skip ?_; refine jq_scope ?_; refine jq_end0 rfl ?_; exact fun w' hw => ⟨rfl, Hp.updd rfl (hw.cast (by have e : i = (rest64 t ++ s).size / 64 := (by omega); rw [e, hashV_done]))⟩)


theorem old_left {w : World} {b : Nat} {t : ByteArray} (h : HA.ok w (.cells b (hashV t))) : w.cell? ⟨b, 8, none⟩ = some (.string (rest64 t)) := ((h : Cells w b (hashV t)).cell 8).trans (hashV_left t)
theorem old_n {w : World} {b : Nat} {t : ByteArray} (h : HA.ok w (.cells b (hashV t))) : w.cell? ⟨b, 9, none⟩ = some (.int .i64 t.size) := ((h : Cells w b (hashV t)).cell 9).trans (hashV_n t)
theorem old_st {w : World} {b : Nat} {t : ByteArray} (h : HA.ok w (.cells b (hashV t))) : ∀ j u, ((state64 t).map (Value.int .u32))[j]? = some u → w.cell? ⟨b, 0 + j, none⟩ = some u := fun j u hj => by
  rw [(h : Cells w b (hashV t)).cell, Nat.zero_add, hashV, List.getElem?_append_left (List.getElem?_eq_some_iff.1 hj).1]
  exact hj

theorem copy_any (b : Nat) (t : ByteArray) (w : World) (hL : w.cell? ⟨b, 8, none⟩ = some (.string (rest64 t))) (hN : w.cell? ⟨b, 9, none⟩ = some (.int .i64 t.size)) (hS : ∀ j u, ((state64 t).map (Value.int .u32))[j]? = some u → w.cell? ⟨b, 0 + j, none⟩ = some u) :
  Calls Tryz.prog 130 #[.pointer (some ⟨b, 0, none⟩)] w fun e w' => ∃ b, e = .returned (.pointer (some ⟨b, 0, none⟩)) ∧ Fresh w w' (.cells b (hashV t)) := by
 obtain ⟨x0, x1, x2, x3, x4, x5, x6, x7, hx⟩ := eight (state64_length t)
 rw [hx] at hS
 refine calls_of (n := 17) (E := [(0, .pointer (some ⟨b, 0, none⟩))]) (W := Hp w [] []) Tryz.func130 rfl rfl (Nat.le_of_ble_eq_true rfl) rfl (Hp.nil _ _) ?_; refine jsr ?_; refine jz ?_; refine jnt ?_; refine jc_seq ?_; refine jc_tail 13 (by kernel_rfl) (fun _ h => h.drew) ?_
 simp only [List.take_succ_cons, List.take_zero, List.drop_succ_cons, List.drop_zero]
 (iterate 3 refine jtz ?_); refine jty (y_loadAgg_old rfl rfl hS (by simp)) ?_; (iterate 8 refine jtz ?_); refine jty (y_build (Built.agg rfl rfl rfl (by repeat constructor) (Built.cell rfl rfl rfl (by repeat constructor) (Built.cell rfl rfl rfl (by repeat constructor) Built.nil)))) ?_; refine jt_nil ?_; refine jl_m rfl (by decide) rfl (m_box rfl rfl) (fun b16 => ?_); refine jz ?_; refine jnt ?_; refine jc_ret ?_; refine jq_ret1 rfl rfl ?_; exact fun w' hw => ⟨b16, rfl, (hw.cast (by rw [hashV, hx]; rfl)).fresh⟩


theorem zeros_done (n j : Nat) (hj : j ≤ zeros n) (h : ¬ (0 : Int) < (((n % 64 : Nat) : Int) + ((1 + j : Nat) : Int) + 8) % 64) : j = zeros n := by have := zeros_spec n; omega
theorem zeros_more (n j : Nat) (hj : j ≤ zeros n) (h : (0 : Int) < (((n % 64 : Nat) : Int) + ((1 + j : Nat) : Int) + 8) % 64) : j + 1 ≤ zeros n := by
  have := zeros_spec n
  rcases Nat.lt_or_ge j (zeros n) with h1 | h1
  · exact h1
  · have : j = zeros n := by omega
    subst this; omega
theorem map_snoc (l : List Int) (x : Int) : l.map (Value.int .u8) ++ [.int .u8 x] = (l ++ [x]).map (Value.int .u8) := by simp
theorem out4 (l : List Int) (x : Int) : (outL l).map (Value.int .u8) ++ [.int .u8 (x / 16777216 % 256), .int .u8 (x / 65536 % 256), .int .u8 (x / 256 % 256), .int .u8 (x % 256)] = (outL (l ++ [x])).map (Value.int .u8) := by
  rw [outL_append]; simp [outL, outW]
theorem pad_done (n : Nat) : (128 : Int) :: List.replicate (zeros n) 0 ++ (lenBytes n).take 8 = padL n := by simp [padL, lenBytes]
theorem padL_size (n : Nat) : (strOfNums (padL n)).size = zeros n + 9 := by rw [strOfNums_size, padL_length]

theorem hsum_any (b : Nat) (t : ByteArray) (w : World) (ht : t.size + 200 ≤ 1152921504606846976) (hL : w.cell? ⟨b, 8, none⟩ = some (.string (rest64 t))) (hN : w.cell? ⟨b, 9, none⟩ = some (.int .i64 t.size)) (hS : ∀ j u, ((state64 t).map (Value.int .u32))[j]? = some u → w.cell? ⟨b, 0 + j, none⟩ = some u) :
  Calls Tryz.prog 119 #[.pointer (some ⟨b, 0, none⟩)] w fun e w' => e = .returned (.string (sumS t)) ∧ Ch [] w w' := by
 have hr := rest64_size t
 have hz := zeros_spec t.size
 have hp := padL_size t.size
 refine calls_of (n := 71) (E := [(0, .pointer (some ⟨b, 0, none⟩))]) (W := Hp w [] []) Tryz.func119 rfl rfl (Nat.le_of_ble_eq_true rfl) rfl (Hp.nil _ _) ?_; refine jsr ?_; refine jz ?_; refine jnt ?_; refine jsr ?_; refine jz ?_; refine jl_fcall rfl (by decide) rfl (goes_func rfl) (fun w1 hw1 => copy_any _ t w1 (hw1.cell hL (by simp)) (hw1.cell hN (by simp)) (fun j u hj => hw1.cell (hS j u hj) (by simp))) (fun b10 => ?_); refine jz ?_; refine jnt ?_; refine jsr ?_; refine jl_m rfl (by decide) rfl (m_buildSlice (by decide) (Built.cell rfl rfl rfl (by repeat constructor) Built.nil)) (fun b11 => ?_); refine jz ?_; refine jnt ?_; refine jc_seq ?_; refine jc_block ?_; refine jc_loop3 (fun (j : Nat) (ad : Option Addr) (cap : Nat) => [(0, .pointer (some ⟨b, 0, none⟩)), (3, .pointer (some ⟨b10, 0, none⟩)), (4, .slice ad (1 + j) cap)]) (fun (j : Nat) (ad : Option Addr) (cap : Nat) => fun w' => j ≤ zeros t.size ∧ Hp w [] [.row (ad) (1 + j) (cap) 5 1 (((128 :: List.replicate j 0 : List Int)).map (.int .u8)), .cells b10 (hashV t)] w') (fun (j : Nat) (ad : Option Addr) (cap : Nat) => zeros t.size - j) 0 (some ⟨b11, 0, none⟩) 1 ?_ ?_ ?_
 ·exact ⟨rfl, rfl, rfl, trivial⟩
 ·exact fun _ h => ⟨by omega, h⟩
 ·intro j ad cap
  refine jc_and (fun hj => ?_); refine jc_seq ?_; refine jsr ?_; (iterate 4 refine jz ?_); refine jy (y_len_str rfl) ?_; refine jz ?_; refine jy (y_len_slice rfl) ?_; (iterate 2 refine jy (yaf rfl rfl) ?_); refine jy (y_rem rfl rfl (by omega) (by omega)) ?_; refine jy (y_gtr rfl rfl) ?_; refine jl_prop (fun h22 => ?_) (fun h22 => ?_)
  ·first | (exfalso; omega) | (
    refine jnt ?_; refine jc_true rfl ?_; refine jc_skip ?_; refine jq_then ?_; refine jc_block ?_; refine jc_region ?_; refine jz ?_; refine jl_m rfl (by decide) rfl (m_buildSlice (by decide) (Built.cell rfl rfl rfl (by repeat constructor) Built.nil)) (fun b24 => ?_); refine jl_m2 rfl (by decide) rfl (m_append rfl rfl (by first | exact del0 | exact del1 | exact del2 | exact del3 | exact del4) (by first | exact del0 | exact del1 | exact del2 | exact del3 | exact del4) rfl (by omega) (by omega)) (fun ad2 cap2 => ?_); refine jz ?_; refine jl_nil ?_; refine jq_block ?_; refine jq_round3 (i := j) (j := ad) (l := cap) (j + 1) ad2 cap2 ?_ ?_ ?_
    ·(have := zeros_more t.size j hj (by omega); omega)
    ·exact ⟨rfl, rfl, rfl, trivial⟩
    ·exact fun _ h => ⟨zeros_more t.size j hj (by omega), h.cast (by rw [List.replicate_succ', ← List.cons_append, ← map_snoc]; rfl)⟩
    )
  ·first | (exfalso; omega) | (
    refine jnt ?_; refine jc_false rfl ?_; refine jc_exit ?_; (iterate 2 refine jq_then_exit ?_); refine jq_hit ?_; refine jq_then ?_; refine jc_seq ?_; refine jsr ?_; refine jz ?_; refine jnt ?_; refine jc_block ?_
    obtain rfl : j = zeros t.size := zeros_done t.size j hj (by omega)
    refine jc_loop3 (fun (k : Nat) (ad : Option Addr) (cap : Nat) => [(0, .pointer (some ⟨b, 0, none⟩)), (3, .pointer (some ⟨b10, 0, none⟩)), (4, .slice ad (1 + zeros t.size + k) cap), (5, .int .i64 (7 - (k : Int)))]) (fun (k : Nat) (ad : Option Addr) (cap : Nat) => fun w' => k ≤ 8 ∧ Hp w [] [.row (ad) (1 + zeros t.size + k) (cap) 5 1 (((128 :: List.replicate (zeros t.size) 0 : List Int) ++ (lenBytes t.size).take k).map (.int .u8)), .cells b10 (hashV t)] w') (fun (k : Nat) (ad : Option Addr) (cap : Nat) => 8 - k) 0 ad cap ?_ ?_ ?_
    ·exact ⟨rfl, rfl, rfl, rfl, trivial⟩
    ·exact fun _ h => ⟨by omega, h.cast (by simp)⟩
    ·intro k ad cap
     refine jc_and (fun hk => ?_); refine jc_seq ?_; refine jsr ?_; refine jz ?_; refine jy (y_geq rfl rfl) ?_; refine jl_prop (fun h27 => ?_) (fun h27 => ?_)
     ·first | (exfalso; omega) | (
       refine jnt ?_; refine jc_true rfl ?_; refine jc_skip ?_; refine jq_then ?_; refine jc_seq ?_; refine jc_block ?_; refine jc_region ?_; iterate 5 refine jz ?_
       first | refine jy (y_conv_fits rfl (by simp only [fits]; omega)) ?_ | refine jy (y_conv_u64 rfl) ?_
       refine jy (y_mul_u64 rfl rfl) ?_; refine jz ?_; refine jy (y_mul_fits rfl rfl (by simp only [fits]; omega)) ?_; refine jy (y_shr rfl rfl (by omega) (by simp only [IntKind.bits]; omega)) ?_
       first | refine jy (y_conv_fits rfl (by simp only [fits]; omega)) ?_ | refine jy (y_conv_u8 rfl) ?_
       refine jl_as (congrArg _ (lenB_eq t.size k (by omega) (by omega))) ?_; refine jl_m rfl (by decide) rfl (m_buildSlice (by decide) (Built.cell rfl rfl rfl (by repeat constructor) Built.nil)) (fun b41 => ?_); refine jl_m2 rfl (by decide) rfl (m_append rfl rfl (by first | exact del0 | exact del1 | exact del2 | exact del3 | exact del4) (by first | exact del0 | exact del1 | exact del2 | exact del3 | exact del4) rfl (by omega) (by omega)) (fun ad3 cap3 => ?_); refine jz ?_; refine jl_nil ?_; refine jq_block ?_; refine jq_then ?_; refine jc_region ?_; refine jz ?_; refine jy (ysf rfl rfl) ?_; refine jz ?_; refine jl_nil ?_; refine jq_round3 (i := k) (j := ad) (l := cap) (k + 1) ad3 cap3 ?_ ?_ ?_
       ·omega
       ·exact ⟨rfl, rfl, rfl, lk_int rfl (by omega), trivial⟩
       ·exact fun _ h => ⟨by omega, h.cast (by rw [lenBytes_take _ _ (by omega), ← List.append_assoc, ← map_snoc]; rfl)⟩
       )
     ·first | (exfalso; omega) | (
       refine jnt ?_; refine jc_false rfl ?_; refine jc_exit ?_; (iterate 2 refine jq_then_exit ?_); refine jq_hit ?_; refine jq_then ?_; refine jsr ?_; (iterate 2 refine jz ?_); refine jy (y_str_own rfl mem0 (U8s.map _)) ?_; refine jl_as (u := .string (strOfNums (padL t.size))) (by have e : k = 8 := (by omega); rw [e, pad_done]) ?_; refine juc (goes_func rfl) (fun w1 hw1 => write_any _ t (strOfNums (padL t.size)) w1 (by omega) (by omega) hw1) ?_; refine jnt ?_; refine jsr ?_; refine jz ?_; refine jnt ?_; (iterate 2 refine jc_seq ?_); refine jc_world (fun _ h => h.nilrow 5 1) ?_; refine jc_region ?_; (iterate 3 refine jz ?_); refine jy (y_loadAgg rfl mem2 (TakeAt.of (hashV_st (t ++ strOfNums (padL t.size))) (by rw [hashV_length]; omega))) ?_; refine jl_as (u := .agg ((finS t).map (.int .u32)).toArray) (by rw [state64_pad]) ?_; refine jz ?_; refine jnt ?_; refine jc_block ?_; refine jc_loop3 (fun (i : Nat) (ad : Option Addr) (cap : Nat) => [(6, .slice ad (4 * i) cap), (50, .agg ((finS t).map (.int .u32)).toArray), (51, .int .i64 (i : Nat))]) (fun (i : Nat) (ad : Option Addr) (cap : Nat) => fun w' => i ≤ 8 ∧ Hp w [] [.row (ad) (4 * i) (cap) 5 1 ((outL ((finS t).take i)).map (.int .u8))] w') (fun (i : Nat) (ad : Option Addr) (cap : Nat) => 8 - i) 0 none 0 ?_ ?_ ?_
       ·exact ⟨rfl, rfl, rfl, trivial⟩
       ·exact fun _ h => ⟨by omega, (h.part (.cons del0 .nil)).cast rfl⟩
       ·intro i ad cap
        refine jc_and (fun hi => ?_); refine jsr ?_; refine jy (y_lss rfl rfl) ?_; refine jl_prop (fun h52 => ?_) (fun h52 => ?_)
        ·first | (exfalso; omega) | (
          refine jnt ?_; refine jc_seq ?_; refine jc_true rfl ?_; refine jc_skip ?_; refine jq_then ?_; refine jc_seq ?_; refine jc_block ?_; refine jsr ?_; refine jy (y_index_arr rfl rfl (by omega) (by omega) (map_get _ _ _ (by rw [finS_length]; omega))) ?_; refine jz ?_; refine jnt ?_; refine jc_region ?_; (iterate 2 refine jz ?_); refine jy (y_shr_by (m := 16777216) rfl rfl (by decide) (by decide) (by decide)) ?_
          first | refine jy (y_conv_fits rfl (by simp only [fits]; omega)) ?_ | refine jy (y_conv_u8 rfl) ?_
          refine jz ?_; refine jy (y_shr_by (m := 65536) rfl rfl (by decide) (by decide) (by decide)) ?_
          first | refine jy (y_conv_fits rfl (by simp only [fits]; omega)) ?_ | refine jy (y_conv_u8 rfl) ?_
          refine jz ?_; refine jy (y_shr_by (m := 256) rfl rfl (by decide) (by decide) (by decide)) ?_
          first | refine jy (y_conv_fits rfl (by simp only [fits]; omega)) ?_ | refine jy (y_conv_u8 rfl) ?_
          refine jz ?_
          first | refine jy (y_conv_fits rfl (by simp only [fits]; omega)) ?_ | refine jy (y_conv_u8 rfl) ?_
          refine jl_m rfl (by decide) rfl (m_buildSlice (by decide) (Built.cell rfl rfl rfl (by repeat constructor) (Built.cell rfl rfl rfl (by repeat constructor) (Built.cell rfl rfl rfl (by repeat constructor) (Built.cell rfl rfl rfl (by repeat constructor) Built.nil))))) (fun b66 => ?_); refine jl_m2 rfl (by decide) rfl (m_append rfl rfl (by first | exact del0 | exact del1 | exact del2 | exact del3 | exact del4) (by first | exact del0 | exact del1 | exact del2 | exact del3 | exact del4) rfl (by omega) (by omega)) (fun ad4 cap4 => ?_); refine jz ?_; refine jl_nil ?_; refine jq_block ?_; refine jq_then ?_; refine jc_region ?_; refine jy (yaf rfl rfl) ?_; refine jz ?_; refine jl_nil ?_; refine jq_round3 (i := i) (j := ad) (l := cap) (i + 1) ad4 cap4 ?_ ?_ ?_
          ·omega
          ·exact ⟨lk_val rfl (by rw [Nat.mul_succ]), rfl, lk_int rfl (by omega), trivial⟩
          ·exact fun _ h => ⟨by omega, h.cast (by rw [take_next _ _ (by rw [finS_length]; omega), ← out4, Nat.mul_succ]; rfl)⟩
          )
        ·first | (exfalso; omega) | (refine jnt ?_; refine jc_seq ?_; refine jc_false rfl ?_; refine jc_exit ?_; (iterate 2 refine jq_then_exit ?_); refine jq_hit ?_; refine jq_then ?_; refine jsr ?_; refine jz ?_; refine jy (y_str_own rfl mem0 (U8s.map _)) ?_; refine jl_as (u := .string (sumS t)) (by have e : i = 8 := (by omega); rw [e, List.take_of_length_le (by rw [finS_length]; omega)]; rfl) ?_; refine jz ?_; refine jnt ?_; refine jc_ret ?_; refine jq_ret1 rfl rfl ?_; exact fun _ hw => ⟨rfl, hw.ch⟩)
       )
    )

theorem sum_any (s : ByteArray) (w : World) (hs : s.size + 200 ≤ 1152921504606846976) :
  Calls Tryz.prog 96 #[.string s] w fun e w' => e = .returned (.string (sumS s)) ∧ Ch [] w w' := by
 refine calls_of (n := 10) (E := [(0, .string s)]) (W := Hp w [] []) Tryz.func96 rfl rfl (Nat.le_of_ble_eq_true rfl) rfl (Hp.nil _ _) ?_; refine jsr ?_; refine jz ?_; refine jnt ?_; refine jsr ?_; refine jl_fcall rfl (by decide) rfl (goes_func rfl) (fun w1 hw1 => new_any w1) (fun bh => ?_); refine jz ?_; refine jnt ?_; refine jsr ?_; (iterate 2 refine jz ?_); refine juc (goes_func rfl) (fun w1 hw1 => write_any _ ⟨#[]⟩ s w1 (by rw [empty_size]; omega) (by omega) hw1) ?_; refine jnt ?_; refine jsr ?_; refine jz ?_; refine jpc (goes_func rfl) (fun w1 hw1 => hsum_any _ (⟨#[]⟩ ++ s) w1 (by rw [empty_app]; omega) (old_left (hw1.get mem0)) (old_n (hw1.get mem0)) (old_st (hw1.get mem0))) ?_; refine jl_as (u := .string (sumS s)) (by rw [empty_app]) ?_; refine jz ?_; refine jnt ?_; refine jc_ret ?_; refine jq_ret1 rfl rfl ?_; exact fun _ hw => ⟨rfl, hw.ch⟩

theorem short_any (s : ByteArray) (w : World) (hs : s.size + 200 ≤ 1152921504606846976) :
  Calls Tryz.prog 79 #[.string s] w fun e w' => e = .returned (.string (shortS s)) ∧ Ch [] w w' := by
 have h32 := sumS_size s
 refine calls_of (n := 6) (E := [(0, .string s)]) (W := Hp w [] []) Tryz.func79 rfl rfl (Nat.le_of_ble_eq_true rfl) rfl (Hp.nil _ _) ?_; refine jsr ?_; refine jz ?_; refine jnt ?_; refine jsr ?_; refine jz ?_; refine jpc (goes_func rfl) (fun w1 hw1 => sum_any _ w1 (by omega)) ?_; refine jy (y_substr_hi rfl rfl (by omega) (by omega)) ?_; refine jz ?_; refine jnt ?_; refine jc_ret ?_; refine jq_ret1 rfl rfl ?_; exact fun _ hw => ⟨rfl, hw.ch⟩

end Go.Proofs.YtghomncegjamfaaGreat