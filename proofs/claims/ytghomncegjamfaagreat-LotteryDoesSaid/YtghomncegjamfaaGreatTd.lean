/- The walks of the tags, the halves and the digits, in both packages. Written by program (walk.py) out of a table of contracts and invariants. -/
import Derived.Test.YtghomncegjamfaaGreatRb
namespace Go.Proofs.YtghomncegjamfaaGreat
open Go.RowKit
set_option maxRecDepth 100000
set_option linter.unusedVariables false
set_option linter.unusedSimpArgs false
attribute [local irreducible] Yields Makes Writes
theorem lenR_eq (n k : Nat) (hk : k < 8) : ((n * 8 / 256 ^ (7 - k) : Nat) : Int) % 256 = (lenBytes n).getD k 0 := by
  match k, hk with
  | 0, _ => simp [lenBytes]
  | 1, _ => simp [lenBytes]
  | 2, _ => simp [lenBytes]
  | 3, _ => simp [lenBytes]
  | 4, _ => simp [lenBytes]
  | 5, _ => simp [lenBytes]
  | 6, _ => simp [lenBytes]
  | 7, _ => simp [lenBytes]
theorem div256 (a q : Nat) : ((a / 256 ^ q : Nat) : Int) / 256 = ((a / 256 ^ (q + 1) : Nat) : Int) := by
  rw [Nat.pow_succ, ← Nat.div_div_eq_div_mul]; rfl
theorem zeros_done2 (n j : Nat) (hj : j ≤ zeros n) (h : ¬ (((n + 1 + j : Nat) : Int) % 64 ≠ 56)) : j = zeros n := by have := zeros_spec n; omega
theorem zeros_more2 (n j : Nat) (hj : j ≤ zeros n) (h : (((n + 1 + j : Nat) : Int) % 64 ≠ 56)) : j + 1 ≤ zeros n := by
  have := zeros_spec n
  rcases Nat.lt_or_ge j (zeros n) with h1 | h1
  · exact h1
  · have : j = zeros n := by omega
    subst this; omega
theorem padded_done (s : ByteArray) : ints s ++ (128 :: List.replicate (zeros s.size) 0 : List Int) ++ (lenBytes s.size).take 8 = padded s := by
  rw [List.append_assoc, pad_done]; rfl
theorem padded_b8 (s : ByteArray) : ∀ x ∈ padded s, 0 ≤ x ∧ x ≤ 255 := by
  intro x hx
  rcases List.mem_append.1 hx with h | h
  · exact ints_range h
  · exact padL_range _ x h
theorem block_b8 (s : ByteArray) (i : Nat) : B8 (((padded s).drop (64 * i)).take 64) := getD_range fun x hx => padded_b8 s x (List.mem_of_mem_drop (List.mem_of_mem_take hx))
theorem finS_ok (s : ByteArray) (i : Nat) (hi : i < 8) : W32 ((finS s).getD i 0) := by
  have h0 : Okst (finS s) := absorb_ok _ _ _ st0_ok
  refine h0 _ ?_
  rw [List.getD_eq_getElem?_getD]
  have h : i < (finS s).length := by rw [finS_length]; exact hi
  rw [List.getElem?_eq_getElem h]
  exact List.getElem_mem h

theorem padded_any (s : ByteArray) (w : World) (hs : s.size ≤ 1000000000) :
  Calls Tryz.prog 131 #[.string s] w fun e w' => ∃ p : Nat × Nat, e = .returned (.slice (some ⟨p.1, 0, none⟩) (padded s).length p.2) ∧ Fresh w w' (.row (some ⟨p.1, 0, none⟩) ((padded s).length) (p.2) 5 1 ((padded s).map (.int .u8))) := by
 have hz := zeros_spec s.size
 refine calls_of (n := 43) (E := [(0, .string s)]) (W := Hp w [] []) Tryz.func131 rfl rfl (Nat.le_of_ble_eq_true rfl) rfl (Hp.nil _ _) ?_; refine jsr ?_; refine jz ?_; refine jnt ?_; refine jsr ?_; refine jl_m rfl (by decide) rfl (m_buildSlice (by decide) Built.nil) (fun b8 => ?_); refine jz ?_; refine jl_m2 rfl (by decide) rfl (m_append_str rfl rfl del0 (by omega) (by omega)) (fun ad10 cap10 => ?_); refine jz ?_; refine jnt ?_; refine jsr ?_; refine jz ?_; refine jl_m rfl (by decide) rfl (m_buildSlice (by decide) (Built.cell rfl rfl rfl (by repeat constructor) Built.nil)) (fun b12 => ?_); refine jl_m2 rfl (by decide) rfl (m_append rfl rfl (by first | exact del0 | exact del1 | exact del2 | exact del3 | exact del4) (by first | exact del0 | exact del1 | exact del2 | exact del3 | exact del4) rfl (by omega) (by omega)) (fun ad13 cap13 => ?_); refine jz ?_; refine jnt ?_; refine jc_seq ?_; refine jc_block ?_; refine jc_loop3 (fun (j : Nat) (ad : Option Addr) (cap : Nat) => [(0, .string s), (3, .slice ad (s.size + 1 + j) cap)]) (fun (j : Nat) (ad : Option Addr) (cap : Nat) => fun w' => j ≤ zeros s.size ∧ Hp w [] [.row (ad) (s.size + 1 + j) (cap) 5 1 ((ints s ++ (128 :: List.replicate j 0 : List Int)).map (.int .u8))] w') (fun (j : Nat) (ad : Option Addr) (cap : Nat) => zeros s.size - j) 0 ad13 cap13 ?_ ?_ ?_
 ·exact ⟨rfl, lk_val rfl (by simp), trivial⟩
 ·exact fun _ h => ⟨by omega, h.cast (by rw [bytesV_ints]; simp)⟩
 ·intro j ad cap
  refine jc_and (fun hj => ?_); refine jc_seq ?_; refine jsr ?_; refine jz ?_; refine jy (y_len_slice rfl) ?_; refine jy (y_rem rfl rfl (by omega) (by omega)) ?_; refine jy (y_neq rfl rfl) ?_; refine jl_prop (fun h17 => ?_) (fun h17 => ?_)
  ·first | (exfalso; omega) | (
    refine jnt ?_; refine jc_true rfl ?_; refine jc_skip ?_; refine jq_then ?_; refine jc_block ?_; refine jc_region ?_; refine jz ?_; refine jl_m rfl (by decide) rfl (m_buildSlice (by decide) (Built.cell rfl rfl rfl (by repeat constructor) Built.nil)) (fun b19 => ?_); refine jl_m2 rfl (by decide) rfl (m_append rfl rfl (by first | exact del0 | exact del1 | exact del2 | exact del3 | exact del4) (by first | exact del0 | exact del1 | exact del2 | exact del3 | exact del4) rfl (by omega) (by omega)) (fun ad20 cap20 => ?_); refine jz ?_; refine jl_nil ?_; refine jq_block ?_; refine jq_round3 (i := j) (j := ad) (l := cap) (j + 1) ad20 cap20 ?_ ?_ ?_
    ·(have := zeros_more2 s.size j hj h17; omega)
    ·exact ⟨rfl, rfl, trivial⟩
    ·exact fun _ h => ⟨zeros_more2 s.size j hj h17, h.cast (by rw [List.replicate_succ', ← List.cons_append, ← List.append_assoc, ← map_snoc]; rfl)⟩
    )
  ·first | (exfalso; omega) | (
    refine jnt ?_; refine jc_false rfl ?_; refine jc_exit ?_; (iterate 2 refine jq_then_exit ?_); refine jq_hit ?_; refine jq_then ?_; refine jsr ?_; refine jz ?_; refine jy (y_len_str rfl) ?_; refine jy (y_mul_fits rfl rfl (by simp only [fits]; omega)) ?_; refine jz ?_; refine jnt ?_; refine jc_seq ?_; refine jsr ?_; refine jz ?_; refine jnt ?_; refine jc_block ?_
    obtain rfl : j = zeros s.size := zeros_done2 s.size j hj h17
    refine jc_loop3 (fun (k : Nat) (ad : Option Addr) (cap : Nat) => [(3, .slice ad (s.size + 1 + zeros s.size + k) cap), (4, .int .i64 (s.size * 8 : Nat)), (5, .int .i64 (7 - (k : Int)))]) (fun (k : Nat) (ad : Option Addr) (cap : Nat) => fun w' => k ≤ 8 ∧ Hp w [] [.row (ad) (s.size + 1 + zeros s.size + k) (cap) 5 1 ((ints s ++ (128 :: List.replicate (zeros s.size) 0 : List Int) ++ (lenBytes s.size).take k).map (.int .u8))] w') (fun (k : Nat) (ad : Option Addr) (cap : Nat) => 8 - k) 0 ad cap ?_ ?_ ?_
    ·exact ⟨rfl, lk_int rfl (by omega), rfl, trivial⟩
    ·exact fun _ h => ⟨by omega, h.cast (by simp)⟩
    ·intro k ad cap
     refine jc_and (fun hk => ?_); refine jc_seq ?_; refine jsr ?_; refine jz ?_; refine jy (y_geq rfl rfl) ?_; refine jl_prop (fun h25 => ?_) (fun h25 => ?_)
     ·first | (exfalso; omega) | (
       refine jnt ?_; refine jc_true rfl ?_; refine jc_skip ?_; refine jq_then ?_; refine jc_seq ?_; refine jc_block ?_; refine jsr ?_; (iterate 2 refine jz ?_); refine jnt ?_; refine jc_seq ?_; refine jsr ?_; refine jz ?_; refine jnt ?_; refine jc_block ?_; refine jc_loop (fun (q : Nat) => [(3, .slice ad (s.size + 1 + zeros s.size + k) cap), (4, .int .i64 (s.size * 8 : Nat)), (5, .int .i64 (7 - (k : Int))), (6, .int .i64 ((s.size * 8 / 256 ^ q : Nat) : Int)), (7, .int .i64 (q : Nat))]) (fun (q : Nat) => fun w' => q ≤ 7 - k ∧ Hp w [] [.row (ad) (s.size + 1 + zeros s.size + k) (cap) 5 1 ((ints s ++ (128 :: List.replicate (zeros s.size) 0 : List Int) ++ (lenBytes s.size).take k).map (.int .u8))] w') (fun (q : Nat) => 7 - k - q) 0 ?_ ?_ ?_
       ·exact ⟨rfl, rfl, rfl, lk_int rfl (by simp), rfl, trivial⟩
       ·exact fun _ h => ⟨by omega, h⟩
       ·intro q
        refine jc_and (fun hq => ?_)
        have hnn : (0 : Int) ≤ ((s.size * 8 / 256 ^ q : Nat) : Int) := Int.natCast_nonneg _
        have hle : ((s.size * 8 / 256 ^ q : Nat) : Int) ≤ ((s.size * 8 : Nat) : Int) := Int.ofNat_le.2 (Nat.div_le_self ..)
        refine jc_seq ?_; refine jsr ?_; (iterate 2 refine jz ?_); refine jy (y_lss rfl rfl) ?_; refine jl_prop (fun h31 => ?_) (fun h31 => ?_)
        ·first | (exfalso; omega) | (
          refine jnt ?_; refine jc_true rfl ?_; refine jc_skip ?_; refine jq_then ?_; refine jc_seq ?_; refine jc_block ?_; refine jc_region ?_; refine jz ?_; refine jy (y_quo rfl rfl (by omega) (by omega) (by simp only [fits]; omega)) ?_; refine jl_as (congrArg _ (div256 _ _)) ?_; refine jz ?_; refine jl_nil ?_; refine jq_block ?_; refine jq_then ?_; refine jc_region ?_; refine jz ?_; refine jy (yaf rfl rfl) ?_; refine jz ?_; refine jl_nil ?_; refine jq_round (i := q) (q + 1) ?_ ?_ ?_
          ·omega
          ·exact ⟨rfl, rfl, rfl, rfl, lk_int rfl (by omega), trivial⟩
          ·exact fun _ h => ⟨by omega, h⟩
          )
        ·first | (exfalso; omega) | (
          refine jnt ?_; refine jc_false rfl ?_; refine jc_exit ?_; (iterate 2 refine jq_then_exit ?_); refine jq_hit ?_; refine jq_then ?_; refine jc_region ?_; (iterate 2 refine jz ?_); refine jy (y_rem rfl rfl (by omega) (by omega)) ?_; refine jl_as (u := .int .i64 ((lenBytes s.size).getD k 0)) (congrArg _ (by have e : q = 7 - k := (by omega); rw [e]; exact lenR_eq s.size k (by omega))) ?_; refine jy (y_conv_fits rfl (by have := lenBytes_range s.size; have := getD_range this k; simp only [fits]; omega)) ?_; refine jl_m rfl (by decide) rfl (m_buildSlice (by decide) (Built.cell rfl rfl rfl (by repeat constructor) Built.nil)) (fun b40 => ?_); refine jl_m2 rfl (by decide) rfl (m_append rfl rfl (by first | exact del0 | exact del1 | exact del2 | exact del3 | exact del4) (by first | exact del0 | exact del1 | exact del2 | exact del3 | exact del4) rfl (by omega) (by omega)) (fun ad41 cap41 => ?_); refine jz ?_; refine jl_nil ?_; refine jq_block ?_; refine jq_then ?_; refine jc_region ?_; refine jz ?_; refine jy (ysf rfl rfl) ?_; refine jz ?_; refine jl_nil ?_; refine jq_round3 (i := k) (j := ad) (l := cap) (k + 1) ad41 cap41 ?_ ?_ ?_
          ·omega
          ·exact ⟨rfl, rfl, lk_int rfl (by omega), trivial⟩
          ·exact fun _ h => ⟨by omega, h.cast (by rw [lenBytes_take _ _ (by omega), ← List.append_assoc, ← map_snoc]; rfl)⟩
          )
       )
     ·first | (exfalso; omega) | (
       refine jnt ?_; refine jc_false rfl ?_; refine jc_exit ?_; (iterate 2 refine jq_then_exit ?_); refine jq_hit ?_; refine jq_then ?_; refine jsr ?_; (iterate 2 refine jz ?_); refine jnt ?_; refine jc_ret ?_; refine jq_ret1 rfl rfl ?_
       exact fun w' hw => (by
        obtain ⟨b', rfl⟩ := row_some (hw.ok _ (List.mem_cons_self ..)) (by omega)
        obtain rfl : k = 8 := by omega
        have hlen : s.size + 1 + zeros s.size + 8 = (padded s).length := by rw [padded_length]; omega
        exact ⟨(b', cap), by rw [hlen], (hw.cast (by rw [padded_done, hlen])).fresh⟩)
       )
    )

theorem rsum_any (s : ByteArray) (w : World) (hs : s.size ≤ 1000000000) :
  Calls Tryz.prog 122 #[.string s] w fun e w' => e = .returned (.string (sumS s)) ∧ Ch [] w w' := by
 have hz := zeros_spec s.size
 have hpl := padded_length s
 have hpm := padded_mod s
 refine calls_of (n := 72) (E := [(0, .string s)]) (W := Hp w [] []) Tryz.func122 rfl rfl (Nat.le_of_ble_eq_true rfl) rfl (Hp.nil _ _) ?_; refine jsr ?_; refine jz ?_; refine jnt ?_; refine jsr ?_; refine jl_m rfl (by decide) rfl (m_buildSlice (by decide) (Built.cell rfl rfl rfl (by repeat constructor) (Built.cell rfl rfl rfl (by repeat constructor) (Built.cell rfl rfl rfl (by repeat constructor) (Built.cell rfl rfl rfl (by repeat constructor) (Built.cell rfl rfl rfl (by repeat constructor) (Built.cell rfl rfl rfl (by repeat constructor) (Built.cell rfl rfl rfl (by repeat constructor) (Built.cell rfl rfl rfl (by repeat constructor) Built.nil))))))))) (fun b9 => ?_); refine jz ?_; refine jnt ?_; refine jsr ?_; refine jz ?_; refine jl_fcall rfl (by decide) rfl (goes_func rfl) (fun w1 hw1 => padded_any _ w1 (by omega)) (fun pp => ?_); refine jl_fcall rfl (by decide) rfl (goes_func rfl) (fun w1 hw1 => rkeys_any w1) (fun b12 => ?_); (iterate 2 refine jz ?_); refine jnt ?_; (iterate 2 refine jc_seq ?_); refine jc_pure (fun w1 h => row_cap (h.ok _ mem1)) (fun hcap => ?_); refine jc_region ?_; refine jz ?_; refine jnt ?_; refine jc_block ?_; refine jc_loop3 (fun (i : Nat) (bs : Nat) (cs : Nat) => [(3, .slice (some ⟨bs, 0, none⟩) 8 cs), (4, .slice (some ⟨pp.1, 0, none⟩) (padded s).length pp.2), (5, .slice (some ⟨b12, 0, none⟩) 64 64), (6, .int .i64 (64 * (i : Int)))]) (fun (i : Nat) (bs : Nat) (cs : Nat) => fun w' => 64 * i ≤ (padded s).length ∧ Hp w [] [.row (some ⟨bs, 0, none⟩) (8) (cs) 166 1 ((absorb i st0 (padded s)).map (.int .u32)), .row (some ⟨b12, 0, none⟩) (64) (64) 166 1 ((kTab).map (.int .u32)), .row (some ⟨pp.1, 0, none⟩) ((padded s).length) (pp.2) 5 1 ((padded s).map (.int .u8))] w') (fun (i : Nat) (bs : Nat) (cs : Nat) => (padded s).length - 64 * i) 0 b9 8 ?_ ?_ ?_
 ·exact ⟨rfl, rfl, rfl, rfl, trivial⟩
 ·exact fun _ h => ⟨by omega, h.part (.cons del2 (.cons del0 (.cons del0 .nil)))⟩
 ·intro i bs cs
  refine jc_and (fun hi => ?_); refine jc_seq ?_; refine jsr ?_; (iterate 2 refine jz ?_); refine jy (y_len_slice rfl) ?_; refine jy (y_lss rfl rfl) ?_; refine jl_prop (fun h16 => ?_) (fun h16 => ?_)
  ·first | (exfalso; omega) | (
    refine jnt ?_; refine jc_true rfl ?_; refine jc_skip ?_; refine jq_then ?_; refine jc_seq ?_; refine jc_block ?_; refine jc_region ?_; (iterate 4 refine jz ?_); refine jy (yaf rfl rfl) ?_; refine jy (y_part rfl rfl rfl (by omega) (by omega) (by omega) (by omega)) ?_; refine jl_as (u := .slice (some ⟨pp.1, 64 * i, none⟩) 64 (pp.2 - 64 * i)) (by have e1 : (64 * (i : Int)).toNat = 64 * i := (by omega); have e2 : (64 * (i : Int) + 64).toNat = 64 * i + 64 := (by omega); simp only [Int.toNat_natCast, e1, e2]; simp) ?_; refine jz ?_; refine jl_fcall rfl (by decide) rfl (goes_func rfl) (fun w1 hw1 => step_any bs cs pp.1 (64 * i) (pp.2 - 64 * i) b12 64 (absorb i st0 (padded s)) (((padded s).drop (64 * i)).take 64) w1 (absorb_length _ _ _ rfl) (absorb_ok _ _ _ st0_ok) (by rw [List.length_take, List.length_drop]; omega) (block_b8 s i) (Old.of_row (hw1.get mem0)) (by have := ((Old.of_row (hw1.get mem2)).drop (64 * i)).take 64; rw [← List.map_drop, ← List.map_take, Nat.zero_add] at this; exact this) (Old.of_row (hw1.get mem1))) (fun ps => ?_); refine jz ?_; refine jl_nil ?_; refine jq_block ?_; refine jq_then ?_; refine jc_region ?_; refine jz ?_; refine jy (yaf rfl rfl) ?_; refine jz ?_; refine jl_nil ?_; refine jq_round3 (i := i) (j := bs) (l := cs) (i + 1) ps.1 ps.2 ?_ ?_ ?_
    ·omega
    ·exact ⟨rfl, rfl, rfl, lk_int rfl (by omega), trivial⟩
    ·exact fun _ h => ⟨by omega, (h.part (.cons del0 (.cons del1 (.cons del1 .nil)))).cast (by rw [absorb_succ])⟩
    )
  ·first | (exfalso; omega) | (
    refine jnt ?_; refine jc_false rfl ?_; refine jc_exit ?_; (iterate 2 refine jq_then_exit ?_); refine jq_hit ?_; refine jq_then ?_; refine jsr ?_; refine jl_m rfl (by decide) rfl (m_buildSlice (by decide) Built.nil) (fun b27 => ?_); refine jz ?_; refine jnt ?_; refine jc_seq ?_; refine jsr ?_; refine jz ?_; refine jnt ?_; refine jc_block ?_; refine jc_loop3 (fun (i : Nat) (ad : Option Addr) (cap : Nat) => [(3, .slice (some ⟨bs, 0, none⟩) 8 cs), (7, .slice ad (4 * i) cap), (8, .int .i64 (i : Nat))]) (fun (i : Nat) (ad : Option Addr) (cap : Nat) => fun w' => i ≤ 8 ∧ Hp w [] [.row (ad) (4 * i) (cap) 5 1 ((outL ((finS s).take i)).map (.int .u8)), .row (some ⟨bs, 0, none⟩) (8) (cs) 166 1 ((finS s).map (.int .u32))] w') (fun (i : Nat) (ad : Option Addr) (cap : Nat) => 8 - i) 0 (some ⟨b27, 0, none⟩) 0 ?_ ?_ ?_
    ·exact ⟨rfl, rfl, rfl, trivial⟩
    ·exact fun _ h => ⟨by omega, (h.part (.cons del0 (.cons del0 .nil))).cast (by have e : i = (padded s).length / 64 := (by omega); rw [e]; rfl)⟩
    ·intro i ad cap
     refine jc_and (fun hi8 => ?_); refine jc_seq ?_; refine jsr ?_; refine jz ?_; refine jy (y_lss rfl rfl) ?_; refine jl_prop (fun h29 => ?_) (fun h29 => ?_)
     ·first | (exfalso; omega) | (
       have hx := finS_ok s i (by omega)
       unfold W32 at hx
       refine jnt ?_; refine jc_true rfl ?_; refine jc_skip ?_; refine jq_then ?_; refine jc_seq ?_; refine jc_block ?_; refine jsr ?_; (iterate 3 refine jz ?_); refine jy (y_indexAddr_slice (off := i) rfl rfl (by omega) (by omega) (by omega)) ?_; refine jy (y_load_row rfl mem1 (map_get _ _ _ (by rw [finS_length]; omega))) ?_; refine jy (y_quo rfl rfl (by omega) (by omega) (by simp only [fits]; omega)) ?_
       first | refine jy (y_conv_fits rfl (by simp only [fits]; omega)) ?_ | refine jy (y_conv_u8 rfl) ?_
       refine jl_as (u := .int .u8 ((finS s).getD i 0 / 16777216 % 256)) (congrArg _ (by omega)) ?_; refine jl_m rfl (by decide) rfl (m_buildSlice (by decide) (Built.cell rfl rfl rfl (by repeat constructor) Built.nil)) (fun b39 => ?_); refine jl_m2 rfl (by decide) rfl (m_append rfl rfl (by first | exact del0 | exact del1 | exact del2 | exact del3 | exact del4) (by first | exact del0 | exact del1 | exact del2 | exact del3 | exact del4) rfl (by omega) (by omega)) (fun ad40 cap40 => ?_); refine jz ?_; refine jnt ?_; refine jsr ?_; (iterate 3 refine jz ?_); refine jy (y_indexAddr_slice (off := i) rfl rfl (by omega) (by omega) (by omega)) ?_; refine jy (y_load_row rfl mem1 (map_get _ _ _ (by rw [finS_length]; omega))) ?_; refine jy (y_quo rfl rfl (by omega) (by omega) (by simp only [fits]; omega)) ?_; refine jy (y_rem rfl rfl (by omega) (by omega)) ?_
       first | refine jy (y_conv_fits rfl (by simp only [fits]; omega)) ?_ | refine jy (y_conv_u8 rfl) ?_
       refine jl_m rfl (by decide) rfl (m_buildSlice (by decide) (Built.cell rfl rfl rfl (by repeat constructor) Built.nil)) (fun b49 => ?_); refine jl_m2 rfl (by decide) rfl (m_append rfl rfl (by first | exact del0 | exact del1 | exact del2 | exact del3 | exact del4) (by first | exact del0 | exact del1 | exact del2 | exact del3 | exact del4) rfl (by omega) (by omega)) (fun ad50 cap50 => ?_); refine jz ?_; refine jnt ?_; refine jsr ?_; (iterate 3 refine jz ?_); refine jy (y_indexAddr_slice (off := i) rfl rfl (by omega) (by omega) (by omega)) ?_; refine jy (y_load_row rfl mem1 (map_get _ _ _ (by rw [finS_length]; omega))) ?_; refine jy (y_quo rfl rfl (by omega) (by omega) (by simp only [fits]; omega)) ?_; refine jy (y_rem rfl rfl (by omega) (by omega)) ?_
       first | refine jy (y_conv_fits rfl (by simp only [fits]; omega)) ?_ | refine jy (y_conv_u8 rfl) ?_
       refine jl_m rfl (by decide) rfl (m_buildSlice (by decide) (Built.cell rfl rfl rfl (by repeat constructor) Built.nil)) (fun b59 => ?_); refine jl_m2 rfl (by decide) rfl (m_append rfl rfl (by first | exact del0 | exact del1 | exact del2 | exact del3 | exact del4) (by first | exact del0 | exact del1 | exact del2 | exact del3 | exact del4) rfl (by omega) (by omega)) (fun ad60 cap60 => ?_); refine jz ?_; refine jnt ?_; refine jc_region ?_; (iterate 3 refine jz ?_); refine jy (y_indexAddr_slice (off := i) rfl rfl (by omega) (by omega) (by omega)) ?_; refine jy (y_load_row rfl mem1 (map_get _ _ _ (by rw [finS_length]; omega))) ?_; refine jy (y_rem rfl rfl (by omega) (by omega)) ?_
       first | refine jy (y_conv_fits rfl (by simp only [fits]; omega)) ?_ | refine jy (y_conv_u8 rfl) ?_
       refine jl_m rfl (by decide) rfl (m_buildSlice (by decide) (Built.cell rfl rfl rfl (by repeat constructor) Built.nil)) (fun b68 => ?_); refine jl_m2 rfl (by decide) rfl (m_append rfl rfl (by first | exact del0 | exact del1 | exact del2 | exact del3 | exact del4) (by first | exact del0 | exact del1 | exact del2 | exact del3 | exact del4) rfl (by omega) (by omega)) (fun ad69 cap69 => ?_); refine jz ?_; refine jl_nil ?_; refine jq_block ?_; refine jq_then ?_; refine jc_region ?_; refine jz ?_; refine jy (yaf rfl rfl) ?_; refine jz ?_; refine jl_nil ?_; refine jq_round3 (i := i) (j := ad) (l := cap) (i + 1) ad69 cap69 ?_ ?_ ?_
       ·omega
       ·exact ⟨rfl, lk_val rfl (by rw [Nat.mul_succ]), lk_int rfl (by omega), trivial⟩
       ·exact fun _ h => ⟨by omega, h.cast (by rw [take_next _ _ (by rw [finS_length]; omega), ← out4, Nat.mul_succ]; simp)⟩
       )
     ·first | (exfalso; omega) | (refine jnt ?_; refine jc_false rfl ?_; refine jc_exit ?_; (iterate 2 refine jq_then_exit ?_); refine jq_hit ?_; refine jq_then ?_; refine jsr ?_; refine jz ?_; refine jy (y_str_own rfl mem0 (U8s.map _)) ?_; refine jl_as (u := .string (sumS s)) (by have e : i = 8 := (by omega); rw [e, List.take_of_length_le (by rw [finS_length]; omega)]; rfl) ?_; refine jz ?_; refine jnt ?_; refine jc_ret ?_; refine jq_ret1 rfl rfl ?_; exact fun _ hw => ⟨rfl, hw.ch⟩)
    )

end Go.Proofs.YtghomncegjamfaaGreat

namespace Go.Proofs.YtghomncegjamfaaGreat
open Go.RowKit
set_option maxRecDepth 100000
set_option linter.unusedVariables false
set_option linter.unusedSimpArgs false
attribute [local irreducible] Yields Makes Writes
theorem bAt_ints (s : ByteArray) (i : Nat) : (bAt s i : Int) = (ints s).getD i 0 := by
  unfold bAt ints
  rw [List.getD_eq_getElem?_getD, List.getElem?_map]
  cases s.data.toList[i]? <;> rfl
theorem and15 (c : Int) (h0 : 0 ≤ c) (h1 : c ≤ 255) : bits .and .u8 c 15 = c % 16 := by
  obtain ⟨n, rfl⟩ := Int.eq_ofNat_of_zero_le h0
  have h : ∀ n : Fin 256, bits .and .u8 ((n.val : Nat) : Int) 15 = ((n.val : Nat) : Int) % 16 := by decide +kernel
  exact h ⟨n, by omega⟩
def digS : ByteArray := ⟨#[48, 49, 50, 51, 52, 53, 54, 55, 56, 57, 97, 98, 99, 100, 101, 102]⟩
theorem dig_at (x : Int) (h0 : 0 ≤ x) (h1 : x < 16) : (bAt digS x.toNat : Int) = hexD x := by
  obtain ⟨n, rfl⟩ := Int.eq_ofNat_of_zero_le h0
  have h : ∀ n : Fin 16, (bAt digS n.val : Int) = hexD ((n.val : Nat) : Int) := by decide +kernel
  exact h ⟨n, by omega⟩
def hexL (l : List Int) : List Int := l.flatMap fun c => [hexD (c / 16), hexD (c % 16)]
theorem hexL_append (a b : List Int) : hexL (a ++ b) = hexL a ++ hexL b := by simp [hexL]
theorem hex2 (l : List Int) (c : Int) : (hexL l).map (Value.int .u8) ++ [.int .u8 (hexD (c / 16)), .int .u8 (hexD (c % 16))] = (hexL (l ++ [c])).map (Value.int .u8) := by
  rw [hexL_append]; simp [hexL]
theorem strOfNums_append (a b : List Int) : strOfNums a ++ strOfNums b = strOfNums (a ++ b) := by
  apply ByteArray.ext; simp [strOfNums]
theorem hexS_done (s : ByteArray) (i : Nat) (h : i = s.size) : strOfNums (hexL ((ints s).take i)) = hexS s := by
  rw [List.take_of_length_le (by rw [ints_length]; omega)]; rfl
theorem hexL_length (l : List Int) : (hexL l).length = 2 * l.length := by
  induction l with
  | nil => rfl
  | cons x xs ih => simp only [hexL, List.flatMap_cons, List.length_append, List.length_cons, List.length_nil] at ih ⊢; omega
theorem hexS_size (s : ByteArray) : (hexS s).size = 2 * s.size := by
  have : hexS s = strOfNums (hexL (ints s)) := rfl
  rw [this, strOfNums_size, hexL_length, ints_length]
theorem hexT_size (s : ByteArray) (i : Nat) : (strOfNums (hexL ((ints s).take i))).size ≤ 2 * s.size := by
  rw [strOfNums_size, hexL_length, List.length_take, ints_length]; omega
/-- What a tag sums up. -/
def tagPre (word : ByteArray) (l : List ByteArray) : ByteArray := l.foldl (fun s p => s ++ partS p) (oneB word.size ++ word)
theorem tagPre_snoc (w : ByteArray) (l : List ByteArray) (p : ByteArray) : tagPre w (l ++ [p]) = tagPre w l ++ partS p := by simp [tagPre, List.foldl_append]
theorem partS_size (p : ByteArray) : (partS p).size = 2 + p.size := by simp [partS, strOfNums_size]
theorem take_get {α : Type} {l : List α} {i : Nat} {p : α} (h : l[i]? = some p) : l.take (i + 1) = l.take i ++ [p] := by rw [List.take_add_one, h]; rfl
theorem tagPre_size (w : ByteArray) (l : List ByteArray) (hB : ∀ p ∈ l, p.size ≤ 1000000) : ∀ i, i ≤ l.length → (tagPre w (l.take i)).size ≤ 1 + w.size + i * 1000002
  | 0, _ => by simp [tagPre, oneB, strOfNums_size]
  | i + 1, h => by
    have hp : l[i]? = some l[i] := List.getElem?_eq_getElem (by omega)
    have h2 := hB l[i] (List.getElem_mem _)
    have ih := tagPre_size w l hB i (by omega)
    rw [take_get hp, tagPre_snoc, ByteArray.size_append, partS_size]
    omega

theorem rshort_any (s : ByteArray) (w : World) (hs : s.size ≤ 1000000000) :
  Calls Tryz.prog 100 #[.string s] w fun e w' => e = .returned (.string (shortS s)) ∧ Ch [] w w' := by
 have h32 := sumS_size s
 refine calls_of (n := 6) (E := [(0, .string s)]) (W := Hp w [] []) Tryz.func100 rfl rfl (Nat.le_of_ble_eq_true rfl) rfl (Hp.nil _ _) ?_; refine jsr ?_; refine jz ?_; refine jnt ?_; refine jsr ?_; refine jz ?_; refine jpc (goes_func rfl) (fun w1 hw1 => rsum_any _ w1 (by omega)) ?_; refine jy (y_substr_hi rfl rfl (by omega) (by omega)) ?_; refine jz ?_; refine jnt ?_; refine jc_ret ?_; refine jq_ret1 rfl rfl ?_; exact fun _ hw => ⟨rfl, hw.ch⟩

theorem tag_any (word : ByteArray) (ad : Option Addr) (c : Nat) (ps : List ByteArray) (w : World) (hw : word.size ≤ 1000000) (hl : ps.length ≤ 900) (hB : ∀ p ∈ ps, p.size ≤ 1000000) (hps : Strs w ad ps) :
  Calls Tryz.prog 49 #[.string word, .slice ad ps.length c] w fun e w' => e = .returned (.string (tagS word ps)) ∧ Ch [] w w' := by
 refine calls_of (n := 37) (E := [(0, .string word), (1, .slice ad ps.length c)]) (W := Hp w [] []) Tryz.func49 rfl rfl (Nat.le_of_ble_eq_true rfl) rfl (Hp.nil _ _) ?_; refine jsr ?_; refine jz ?_; refine jnt ?_; refine jsr ?_; refine jz ?_; refine jy (y_len_str rfl) ?_
 first | refine jy (y_conv_fits rfl (by simp only [fits]; omega)) ?_ | refine jy (y_conv_u8 rfl) ?_
 refine jl_m rfl (by decide) rfl (m_buildSlice (by decide) (Built.cell rfl rfl rfl (by repeat constructor) Built.nil)) (fun b11 => ?_); refine jy (y_str_own rfl (by first | exact mem0 | exact mem1 | exact mem2 | exact mem3 | exact mem4 | exact mem5) (by repeat constructor)) ?_; refine jz ?_; refine jy (y_concat rfl rfl (by simp only [ByteArray.size_append, strOfNums_size, List.length_cons, List.length_nil]; omega)) ?_; refine jz ?_; refine jnt ?_; refine jc_seq ?_; refine jsr ?_; refine jz ?_; refine jy (y_len_slice rfl) ?_; refine jz ?_; refine jnt ?_; refine jc_block ?_; refine jc_loop (fun (i : Nat) => [(5, .string (tagPre word (ps.take i))), (15, .slice ad ps.length c), (16, .int .i64 ps.length), (17, .int .i64 (i : Nat))]) (fun (i : Nat) => fun w' => i ≤ ps.length ∧ Hp w [] [] w') (fun (i : Nat) => ps.length - i) 0 ?_ ?_ ?_
 ·exact ⟨rfl, rfl, rfl, rfl, trivial⟩
 ·exact fun _ h => ⟨by omega, h.part .nil⟩
 ·intro i
  refine jc_and (fun hi => ?_)
  have hsz := tagPre_size word ps hB i hi
  refine jsr ?_; refine jy (y_lss rfl rfl) ?_; refine jl_prop (fun h18 => ?_) (fun h18 => ?_)
  ·first | (exfalso; omega) | (
    have hi' : i < ps.length := by omega
    obtain ⟨p, hp⟩ : ∃ p, ps[i]? = some p := ⟨_, List.getElem?_eq_getElem hi'⟩
    have hpB := hB p (List.mem_of_getElem? hp)
    obtain ⟨bb, oo, rfl, hc⟩ := hps i p hp
    refine jnt ?_; refine jc_seq ?_; refine jc_true rfl ?_; refine jc_skip ?_; refine jq_then ?_; refine jc_seq ?_; refine jc_block ?_; refine jsr ?_; refine jy (y_indexAddr_slice (off := oo + i) rfl rfl (by omega) (by omega) (by omega)) ?_; refine jy (y_load_old rfl hc (by simp)) ?_; refine jz ?_; refine jnt ?_; refine jc_region ?_; (iterate 2 refine jz ?_); refine jy (y_len_str rfl) ?_; refine jy (y_shr_by (m := 256) rfl rfl (by decide) (by decide) (by decide)) ?_
    first | refine jy (y_conv_fits rfl (by simp only [fits]; omega)) ?_ | refine jy (y_conv_u8 rfl) ?_
    refine jz ?_; refine jy (y_len_str rfl) ?_
    first | refine jy (y_conv_fits rfl (by simp only [fits]; omega)) ?_ | refine jy (y_conv_u8 rfl) ?_
    refine jl_m rfl (by decide) rfl (m_buildSlice (by decide) (Built.cell rfl rfl rfl (by repeat constructor) (Built.cell rfl rfl rfl (by repeat constructor) Built.nil))) (fun b29 => ?_); refine jy (y_str_own rfl (by first | exact mem0 | exact mem1 | exact mem2 | exact mem3 | exact mem4 | exact mem5) (by repeat constructor)) ?_; refine jz ?_; (iterate 2 refine jy (y_concat rfl rfl (by simp only [ByteArray.size_append, strOfNums_size, List.length_cons, List.length_nil]; omega)) ?_); refine jl_as (u := .string (tagPre word (ps.take (i + 1)))) (by rw [take_get hp, tagPre_snoc]; rfl) ?_; refine jz ?_; refine jl_nil ?_; refine jq_block ?_; refine jq_then ?_; refine jc_region ?_; refine jy (yaf rfl rfl) ?_; refine jz ?_; refine jl_nil ?_; refine jq_round (i := i) (i + 1) ?_ ?_ ?_
    ·omega
    ·exact ⟨rfl, rfl, rfl, lk_int rfl (by omega), trivial⟩
    ·exact fun _ h => ⟨by omega, h.part .nil⟩
    )
  ·first | (exfalso; omega) | (refine jnt ?_; refine jc_seq ?_; refine jc_false rfl ?_; refine jc_exit ?_; (iterate 2 refine jq_then_exit ?_); refine jq_hit ?_; refine jq_then ?_; refine jsr ?_; refine jz ?_; refine jpc (goes_func rfl) (fun w1 hw1 => short_any _ w1 (by omega)) ?_; refine jl_as (u := .string (tagS word ps)) (by have e : i = ps.length := (by omega); rw [e, List.take_length]; rfl) ?_; refine jz ?_; refine jnt ?_; refine jc_ret ?_; refine jq_ret1 rfl rfl ?_; exact fun _ hw => ⟨rfl, hw.ch⟩)

theorem rtag_any (word : ByteArray) (ad : Option Addr) (c : Nat) (ps : List ByteArray) (w : World) (hw : word.size ≤ 1000000) (hl : ps.length ≤ 900) (hB : ∀ p ∈ ps, p.size ≤ 1000000) (hps : Strs w ad ps) :
  Calls Tryz.prog 85 #[.string word, .slice ad ps.length c] w fun e w' => e = .returned (.string (tagS word ps)) ∧ Ch [] w w' := by
 refine calls_of (n := 45) (E := [(0, .string word), (1, .slice ad ps.length c)]) (W := Hp w [] []) Tryz.func85 rfl rfl (Nat.le_of_ble_eq_true rfl) rfl (Hp.nil _ _) ?_; refine jsr ?_; refine jz ?_; refine jnt ?_; refine jsr ?_; refine jz ?_; refine jy (y_len_str rfl) ?_; refine jy (y_rem rfl rfl (by omega) (by omega)) ?_
 first | refine jy (y_conv_fits rfl (by simp only [fits]; omega)) ?_ | refine jy (y_conv_u8 rfl) ?_
 refine jl_m rfl (by decide) rfl (m_buildSlice (by decide) (Built.cell rfl rfl rfl (by repeat constructor) Built.nil)) (fun b12 => ?_); refine jy (y_str_own rfl (by first | exact mem0 | exact mem1 | exact mem2 | exact mem3 | exact mem4 | exact mem5) (by repeat constructor)) ?_; refine jz ?_; refine jy (y_concat rfl rfl (by simp only [ByteArray.size_append, strOfNums_size, List.length_cons, List.length_nil]; omega)) ?_; refine jz ?_; refine jnt ?_; refine jc_seq ?_; refine jsr ?_; refine jz ?_; refine jnt ?_; refine jc_block ?_; refine jc_loop (fun (i : Nat) => [(1, .slice ad ps.length c), (5, .string (tagPre word (ps.take i))), (6, .int .i64 (i : Nat))]) (fun (i : Nat) => fun w' => i ≤ ps.length ∧ Hp w [] [] w') (fun (i : Nat) => ps.length - i) 0 ?_ ?_ ?_
 ·exact ⟨rfl, rfl, rfl, trivial⟩
 ·exact fun _ h => ⟨by omega, h.part .nil⟩
 ·intro i
  refine jc_and (fun hi => ?_)
  have hsz := tagPre_size word ps hB i hi
  refine jc_seq ?_; refine jsr ?_; (iterate 2 refine jz ?_); refine jy (y_len_slice rfl) ?_; refine jy (y_lss rfl rfl) ?_; refine jl_prop (fun h19 => ?_) (fun h19 => ?_)
  ·first | (exfalso; omega) | (
    have hi' : i < ps.length := by omega
    obtain ⟨p, hp⟩ : ∃ p, ps[i]? = some p := ⟨_, List.getElem?_eq_getElem hi'⟩
    have hpB := hB p (List.mem_of_getElem? hp)
    obtain ⟨bb, oo, rfl, hc⟩ := hps i p hp
    refine jnt ?_; refine jc_true rfl ?_; refine jc_skip ?_; refine jq_then ?_; refine jc_seq ?_; refine jc_block ?_; refine jsr ?_; (iterate 2 refine jz ?_); refine jy (y_indexAddr_slice (off := oo + i) rfl rfl (by omega) (by omega) (by omega)) ?_; refine jy (y_load_old rfl hc (by simp)) ?_; refine jy (y_len_str rfl) ?_; refine jz ?_; refine jnt ?_; refine jc_sched 16 [(0, true), (1, true), (2, true), (3, true), (4, true), (5, true), (6, true), (7, true), (10, true), (11, true), (12, true), (13, true), (8, false), (9, false), (14, true), (15, true)] rfl (by kernel_rfl) (fun _ _ _ _ h => h) (fun _ h => h.drew) ?_
    simp only [pickO, nthO, List.drop_succ_cons, List.drop_zero]
    (iterate 2 refine jkz ?_); refine jky (y_quo rfl rfl (by omega) (by omega) (by simp only [fits]; omega)) ?_; refine jky (y_rem rfl rfl (by omega) (by omega)) ?_
    first | refine jky (y_conv_fits rfl (by simp only [fits]; omega)) ?_ | refine jky (y_conv_u8 rfl) ?_
    refine jkz ?_; refine jky (y_rem rfl rfl (by omega) (by omega)) ?_
    first | refine jky (y_conv_fits rfl (by simp only [fits]; omega)) ?_ | refine jky (y_conv_u8 rfl) ?_
    (iterate 2 refine jkz ?_); refine jky (y_indexAddr_slice (off := oo + i) rfl rfl (by omega) (by omega) (by omega)) ?_; refine jky (y_load_old rfl hc (by simp)) ?_; refine js_m (by intros; rename_i h; first | exact h | exact h.pop | exact h.pop.pop | exact h.pop.pop.pop | exact h.pop.pop.pop.pop | exact h.pop.pop.pop.pop.pop | exact h.pop.pop.pop.pop.pop.pop | exact h.part .nil) rfl (by decide) rfl (m_buildSlice (by decide) (Built.cell rfl rfl rfl (by repeat constructor) (Built.cell rfl rfl rfl (by repeat constructor) Built.nil))) (fun b35 => ?_); refine js_y (by intro _ h; first | exact h | exact h.pop | exact h.pop.pop | exact h.pop.pop.pop | exact h.pop.pop.pop.pop | exact h.pop.pop.pop.pop.pop | exact h.pop.pop.pop.pop.pop.pop | exact h.part .nil) rfl (by decide) rfl (y_str_own rfl (by first | exact mem0 | exact mem1 | exact mem2 | exact mem3 | exact mem4 | exact mem5) (by repeat constructor)) ?_; (iterate 2 refine jky (y_concat rfl rfl (by simp only [ByteArray.size_append, strOfNums_size, List.length_cons, List.length_nil]; omega)) ?_); refine js_as (u := .string (tagPre word (ps.take (i + 1)))) (by rw [take_get hp, tagPre_snoc]; rfl) ?_; refine js_nil ?_; refine jz ?_; refine jl_nil ?_; refine jq_block ?_; refine jq_then ?_; refine jc_region ?_; refine jz ?_; refine jy (yaf rfl rfl) ?_; refine jz ?_; refine jl_nil ?_; refine jq_round (i := i) (i + 1) ?_ ?_ ?_
    ·omega
    ·exact ⟨rfl, rfl, lk_int rfl (by omega), trivial⟩
    ·exact fun _ h => ⟨by omega, h.part .nil⟩
    )
  ·first | (exfalso; omega) | (refine jnt ?_; refine jc_false rfl ?_; refine jc_exit ?_; (iterate 2 refine jq_then_exit ?_); refine jq_hit ?_; refine jq_then ?_; refine jsr ?_; refine jz ?_; refine jpc (goes_func rfl) (fun w1 hw1 => rshort_any _ w1 (by omega)) ?_; refine jl_as (u := .string (tagS word ps)) (by have e : i = ps.length := (by omega); rw [e, List.take_length]; rfl) ?_; refine jz ?_; refine jnt ?_; refine jc_ret ?_; refine jq_ret1 rfl rfl ?_; exact fun _ hw => ⟨rfl, hw.ch⟩)

end Go.Proofs.YtghomncegjamfaaGreat
