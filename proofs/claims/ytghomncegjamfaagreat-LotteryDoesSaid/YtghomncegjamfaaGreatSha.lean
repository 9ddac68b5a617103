/- The walks of package sha. Written by program (walk.py) out of a table of contracts and invariants. -/
import Derived.Test.YtghomncegjamfaaGreatTab
import Derived.Test.YtghomncegjamfaaGreatJh
import Derived.Test.YtghomncegjamfaaGreatMsha
namespace Go.Proofs.YtghomncegjamfaaGreat
open Go.RowKit
set_option maxRecDepth 100000
set_option linter.unusedVariables false
set_option linter.unusedSimpArgs false
attribute [local irreducible] Yields Makes Writes

theorem turn_any (x q : Int) (w : World) (h0 : 0 ≤ q) (h1 : q ≤ 32) :
  Calls Tryz.prog 138 #[.int .u32 x, .int .i64 q] w fun e w' => e = .returned (.int .u32 (rotr x q)) ∧ Ch [] w w' := by
 refine calls_of (n := 13) (E := [(0, .int .u32 x), (1, .int .i64 q)]) (W := Hp w [] []) Tryz.func138 rfl rfl (Nat.le_of_ble_eq_true rfl) rfl (Hp.nil _ _) ?_; refine jsr ?_; refine jz ?_; refine jnt ?_; refine jc_seq ?_; refine jc_draw (by kernel_rfl) (fun _ h => h.drew) ?_; (iterate 2 refine juz ?_); refine juy (y_shr rfl rfl (by omega) (by simp only [IntKind.bits]; omega)) ?_; (iterate 2 refine juz ?_); refine juy (ysf rfl rfl) ?_; refine juy (y_shl_u32 rfl rfl (by omega) (by omega)) ?_; refine juy (y_or rfl rfl) ?_; refine juz ?_; refine ju_nil ?_; refine jq_then ?_; refine jc_ret ?_; refine jq_ret1 rfl rfl ?_; exact fun _ hw => ⟨rfl, hw.ch⟩


/-- The first j of a word's four bytes. -/
def be (blk : List Int) (t : Nat) : Nat → Int
  | 0 => 0
  | j + 1 => be blk t j * 256 + blk.getD (4 * t + j) 0
theorem be_four (blk : List Int) (t : Nat) : be blk t 4 = be4 blk t := by simp only [be, be4, Nat.add_zero]; omega
theorem be_range (s : ByteArray) (t j : Nat) (h : j ≤ 4) : 0 ≤ be (ints s) t j ∧ (j ≤ 3 → be (ints s) t j < 16777216) := by
  have r := fun i => ints_getD_range s (4 * t + i)
  have r0 := r 0; have r1 := r 1; have r2 := r 2; have r3 := r 3
  match j, h with
  | 0, _ => simp [be]
  | 1, _ => simp only [be]; omega
  | 2, _ => simp only [be]; omega
  | 3, _ => simp only [be]; omega
  | 4, _ => simp only [be]; omega
def sub4 (s : ByteArray) (t : Nat) : ByteArray := s.extract (4 * t) (4 * t + 4)
theorem sub4_size (s : ByteArray) (t : Nat) (h : 4 * t + 4 ≤ s.size) : (sub4 s t).size = 4 := by simp [sub4]; omega
theorem bytesV_ints (s : ByteArray) : bytesV s = (ints s).map (Value.int .u8) := by simp [bytesV, ints]
theorem bytesV_get (s : ByteArray) (sp : List Value) (j : Nat) (h : j < s.size) : (bytesV s ++ sp)[j]? = some (.int .u8 ((ints s).getD j 0)) := by
  rw [bytesV_ints, List.getElem?_append_left (by simpa [ints_length] using h), List.getElem?_map, List.getElem?_eq_getElem (by rw [ints_length]; exact h), List.getD_eq_getElem?_getD, List.getElem?_eq_getElem (by rw [ints_length]; exact h)]
  rfl
theorem sub4_get (s : ByteArray) (t j : Nat) (h : j < 4) : (ints (sub4 s t)).getD j 0 = (ints s).getD (4 * t + j) 0 := by
  simp only [sub4, ints_extract, List.getD_eq_getElem?_getD, List.getElem?_drop, List.getElem?_take]
  rw [if_pos (by omega)]
def wpart (s : ByteArray) (t j : Nat) : List Int := (wpad (ints s) t).set t (be (ints s) t j)
theorem wpart_length (s : ByteArray) (t j : Nat) (h : t ≤ 64) : (wpart s t j).length = 64 := by simp [wpart, wpad_length _ _ h]
theorem wpart_get (s : ByteArray) (t j : Nat) (h : t < 64) : (wpart s t j).getD t 0 = be (ints s) t j := by
  simp [wpart, List.getD_eq_getElem?_getD, wpad_length _ _ (Nat.le_of_lt h), h]
theorem wpart_set (s : ByteArray) (t j : Nat) (x : Int) : (wpart s t j).set t x = (wpad (ints s) t).set t x := by simp [wpart]
theorem wpart_zero (s : ByteArray) (t : Nat) (h : t < 64) : wpart s t 0 = wpad (ints s) t := by
  unfold wpart wpad
  rw [List.set_append_right _ _ (by simp [wds_length]), wds_length, Nat.sub_self, show 64 - t = (64 - (t + 1)) + 1 by omega, List.replicate_succ]
  simp [be]
theorem wpart_four (s : ByteArray) (t : Nat) (h : t < 16) : wpart s t 4 = wpad (ints s) (t + 1) := by
  rw [← wpad_set _ _ (by omega), wpart, be_four, wnext, if_pos h]

theorem schedule_any (s : ByteArray) (w : World) (hs : s.size = 64) :
  Calls Tryz.prog 136 #[.string s] w fun e w' => ∃ b, e = .returned (.pointer (some ⟨b, 0, none⟩)) ∧ Fresh w w' (.cells b ((wds (ints s) 64).map (.int .u32))) := by
 refine calls_of (n := 78) (E := [(0, .string s)]) (W := Hp w [] []) Tryz.func136 rfl rfl (Nat.le_of_ble_eq_true rfl) rfl (Hp.nil _ _) ?_; refine jsr ?_; refine jz ?_; refine jnt ?_; refine jsr ?_; refine jl_m rfl (by decide) rfl (m_alloc) (fun b3 => ?_); refine jnt ?_; refine jc_seq ?_; refine jsr ?_; refine jz ?_; refine jnt ?_; refine jc_block ?_; refine jc_loop (ι := Nat) (fun t => [(0, .string s), (3, .pointer (some ⟨b3, 0, none⟩)), (10, .int .i64 (t : Nat))]) (fun t => fun w' => t ≤ 16 ∧ Hp w [] [.cells b3 ((wpad (ints s) t).map (.int .u32))] w') (fun t => 16 - t) 0 ?_ ?_ ?_
 ·exact ⟨rfl, rfl, rfl, trivial⟩
 ·exact fun _ h => ⟨by omega, h.cast (by simp [wpad, wds])⟩
 ·rintro t
  refine jc_and (fun ht => ?_); refine jsr ?_; refine jy (y_lss rfl rfl) ?_; refine jl_prop (fun h11 => ?_) (fun h11 => ?_)
  ·first | (exfalso; omega) | (
    refine jnt ?_; refine jc_seq ?_; refine jc_true rfl ?_; refine jc_skip ?_; refine jq_then ?_; refine jc_seq ?_; refine jc_block ?_; refine jsr ?_; (iterate 2 refine jz ?_); refine jnt ?_; refine jsr ?_; (iterate 2 refine jz ?_); refine jy (y_mul_fits rfl rfl (by simp only [fits]; omega)) ?_; refine jz ?_; refine jy (y_mul_fits rfl rfl (by simp only [fits]; omega)) ?_; refine jy (yaf rfl rfl) ?_; refine jy (y_substr rfl rfl rfl (by omega) (by omega) (by omega)) ?_; refine jl_as (u := .string (sub4 s t)) (by simp only [sub4]; congr 3 <;> omega) ?_; refine jl_m3 rfl (by decide) rfl (m_bytes rfl) (fun b20 c20 sp20 => ?_); refine jy (y_len_slice rfl) ?_; refine jl_as (u := .int .i64 4) (by rw [sub4_size s t (by omega)]; rfl) ?_; refine jz ?_; refine jnt ?_; refine jc_block ?_; refine jc_loop (ι := Nat) (fun j => [(0, .string s), (3, .pointer (some ⟨b3, 0, none⟩)), (4, .int .i64 (t : Nat)), (10, .int .i64 (t : Nat)), (20, .slice (some ⟨b20, 0, none⟩) (sub4 s t).size c20), (21, .int .i64 4), (22, .int .i64 (j : Nat))]) (fun j => fun w' => j ≤ 4 ∧ Hp w [] [.cells b20 (bytesV (sub4 s t) ++ sp20), .cells b3 ((wpart s t j).map (.int .u32))] w') (fun j => 4 - j) 0 ?_ ?_ ?_
    ·exact ⟨rfl, rfl, rfl, rfl, rfl, rfl, rfl, trivial⟩
    ·exact fun _ h => ⟨by omega, h.cast (by rw [wpart_zero s t (by omega)])⟩
    ·rintro j
     refine jc_and (fun hj => ?_)
     have hbe := be_range s t j hj
     have hr := ints_getD_range s (4 * t + j)
     have hsz := sub4_size s t (by omega)
     refine jsr ?_; refine jy (y_lss rfl rfl) ?_; refine jl_prop (fun h23 => ?_) (fun h23 => ?_)
     ·first | (exfalso; omega) | (
       refine jnt ?_; refine jc_seq ?_; refine jc_true rfl ?_; refine jc_skip ?_; refine jq_then ?_; refine jc_seq ?_; refine jc_block ?_; refine jsr ?_; refine jy (yis rfl rfl) ?_; refine jy (y_load rfl mem0 (bytesV_get _ _ _ (by rw [sub4_size s t (by omega)]; omega))) ?_; refine jl_as (congrArg _ (sub4_get s t j (by omega))) ?_; refine jz ?_; refine jnt ?_; refine jc_region ?_; (iterate 2 refine jz ?_); refine jy (yia rfl rfl) ?_; refine jy (y_load rfl mem1 (map_get _ _ _ (by rw [wpart_length _ _ _ (by omega)]; omega))) ?_; refine jl_as (congrArg _ (wpart_get s t j (by omega))) ?_; refine jy (y_shl_by_u32 (m := 256) rfl rfl (by decide) (by decide) (by decide)) ?_; refine jz ?_
       first | refine jy (y_conv_fits rfl (by simp only [fits]; omega)) ?_
       refine jy (y_or rfl rfl) ?_; refine jl_as (congrArg _ (bits_or_add _ _ hbe.1 (hbe.2 (by omega)) hr.1 (by omega))) ?_; refine jy (yia rfl rfl) ?_; refine jl_w rfl rfl (w_store rfl rfl rfl (by rw [List.length_map, wpart_length _ _ _ (by omega)]; omega) rep1) ?_; refine jl_nil ?_; refine jq_block ?_; refine jq_then ?_; refine jc_region ?_; refine jy (yaf rfl rfl) ?_; refine jz ?_; refine jl_nil ?_; refine jq_round (ι := Nat) (j + 1) ?_ ?_ ?_
       ·omega
       ·exact ⟨rfl, rfl, rfl, rfl, rfl, rfl, lk_int rfl (by omega), trivial⟩
       ·exact fun _ h => ⟨by omega, h.cast (by rw [map_set, wpart_set]; rfl)⟩
       )
     ·first | (exfalso; omega) | (
       refine jnt ?_; refine jc_seq ?_; refine jc_false rfl ?_; refine jc_exit ?_; (iterate 2 refine jq_then_exit ?_); refine jq_hit ?_; refine jq_block ?_; refine jq_then ?_; refine jc_region ?_; refine jy (yaf rfl rfl) ?_; refine jz ?_; refine jl_nil ?_; refine jq_round (ι := Nat) (t + 1) ?_ ?_ ?_
       ·omega
       ·exact ⟨rfl, rfl, lk_int rfl (by omega), trivial⟩
       ·exact fun _ h => ⟨by omega, (h.part (.cons del1 .nil)).cast (by rw [show j = 4 by omega, wpart_four s t (by omega)])⟩
       )
    )
  ·first | (exfalso; omega) | (
    refine jnt ?_; refine jc_seq ?_; refine jc_false rfl ?_; refine jc_exit ?_; (iterate 2 refine jq_then_exit ?_); refine jq_hit ?_; refine jq_then ?_; refine jc_seq ?_; refine jsr ?_; refine jz ?_; refine jnt ?_; refine jc_block ?_; refine jc_loop (ι := Nat) (fun t => [(3, .pointer (some ⟨b3, 0, none⟩)), (7, .int .i64 (t : Nat))]) (fun t => fun w' => (16 ≤ t ∧ t ≤ 64) ∧ Hp w [] [.cells b3 ((wpad (ints s) t).map (.int .u32))] w') (fun t => 64 - t) 16 ?_ ?_ ?_
    ·exact ⟨rfl, rfl, trivial⟩
    ·exact fun _ h => ⟨by omega, h.cast (by rw [show t = 16 by omega])⟩
    ·rintro t
     refine jc_and (fun ht2 => ?_); refine jc_seq ?_; refine jsr ?_; refine jz ?_; refine jy (y_lss rfl rfl) ?_; refine jl_prop (fun h38 => ?_) (fun h38 => ?_)
     ·first | (exfalso; omega) | (
       refine jnt ?_; refine jc_true rfl ?_; refine jc_skip ?_; refine jq_then ?_; refine jc_seq ?_; refine jc_block ?_; refine jc_seq ?_; refine jc_draw (by kernel_rfl) (fun _ h => h.drew) ?_; refine juz ?_; refine juy (ysf rfl rfl) ?_; refine juy (y_indexAddr_arr (off := t - 15) rfl rfl (by omega) (by omega) (by omega)) ?_; refine juy (y_load rfl mem0 (map_get _ _ _ (by rw [wpad_length _ _ (by omega)]; omega))) ?_; refine ju_as (congrArg _ (wpad_getD _ _ _ (by omega))) ?_; refine juz ?_; refine juy (ysf rfl rfl) ?_; refine juy (y_indexAddr_arr (off := t - 2) rfl rfl (by omega) (by omega) (by omega)) ?_; refine juy (y_load rfl mem0 (map_get _ _ _ (by rw [wpad_length _ _ (by omega)]; omega))) ?_; refine ju_as (congrArg _ (wpad_getD _ _ _ (by omega))) ?_; (iterate 2 refine juz ?_); refine ju_nil ?_; refine jq_then ?_; refine jc_tail 29 (by kernel_rfl) (fun _ h => h.drew) ?_
       simp only [List.take_succ_cons, List.take_zero, List.drop_succ_cons, List.drop_zero]
       (iterate 2 refine jtz ?_); refine jt_call rfl (by decide) rfl (goes_func rfl) (fun w1 hw1 => pcall hw1 (turn_any _ _ w1 (by omega) (by omega))) ?_; refine jtz ?_; refine jt_call rfl (by decide) rfl (goes_func rfl) (fun w1 hw1 => pcall hw1 (turn_any _ _ w1 (by omega) (by omega))) ?_; refine jty (y_xor rfl rfl) ?_; refine jtz ?_; refine jty (y_shr_by (m := 1024) rfl rfl (by decide) (by decide) (by decide)) ?_; refine jty (y_xor rfl rfl) ?_; refine jtz ?_; refine jty (ysf rfl rfl) ?_; refine jty (y_indexAddr_arr (off := t - 7) rfl rfl (by omega) (by omega) (by omega)) ?_; refine jty (y_load rfl mem0 (map_get _ _ _ (by rw [wpad_length _ _ (by omega)]; omega))) ?_; refine jt_as (congrArg _ (wpad_getD _ _ _ (by omega))) ?_; refine jty (y_add_u32 rfl rfl) ?_; refine jtz ?_; refine jt_call rfl (by decide) rfl (goes_func rfl) (fun w1 hw1 => pcall hw1 (turn_any _ _ w1 (by omega) (by omega))) ?_; refine jtz ?_; refine jt_call rfl (by decide) rfl (goes_func rfl) (fun w1 hw1 => pcall hw1 (turn_any _ _ w1 (by omega) (by omega))) ?_; refine jty (y_xor rfl rfl) ?_; refine jtz ?_; refine jty (y_shr_by (m := 8) rfl rfl (by decide) (by decide) (by decide)) ?_; refine jty (y_xor rfl rfl) ?_; refine jty (y_add_u32 rfl rfl) ?_; refine jtz ?_; refine jty (ysf rfl rfl) ?_; refine jty (y_indexAddr_arr (off := t - 16) rfl rfl (by omega) (by omega) (by omega)) ?_; refine jty (y_load rfl mem0 (map_get _ _ _ (by rw [wpad_length _ _ (by omega)]; omega))) ?_; refine jt_as (congrArg _ (wpad_getD _ _ _ (by omega))) ?_; refine jty (y_add_u32 rfl rfl) ?_; refine jt_as (u := .int .u32 (wnext (ints s) (wds (ints s) t) t)) (by rw [wnext, if_neg (by omega)]; rfl) ?_; refine jty (y_indexAddr_arr (off := t) rfl rfl (by omega) (by omega) (by omega)) ?_; refine jt_nil ?_; refine jl_w rfl rfl (w_store rfl rfl rfl (by rw [List.length_map, wpad_length _ _ (by omega)]; omega) rep0) ?_; refine jl_nil ?_; refine jq_block ?_; refine jq_then ?_; refine jc_region ?_; refine jz ?_; refine jy (yaf rfl rfl) ?_; refine jz ?_; refine jl_nil ?_; refine jq_round (ι := Nat) (t + 1) ?_ ?_ ?_
       ·omega
       ·exact ⟨rfl, lk_int rfl (by omega), trivial⟩
       ·exact fun _ h => ⟨by omega, h.cast (by rw [map_set, wpad_set _ _ (by omega)])⟩
       )
     ·first | (exfalso; omega) | (refine jnt ?_; refine jc_false rfl ?_; refine jc_exit ?_; (iterate 2 refine jq_then_exit ?_); refine jq_hit ?_; refine jq_then ?_; refine jsr ?_; refine jz ?_; refine jnt ?_; refine jc_ret ?_; refine jq_ret1 rfl rfl ?_; exact fun w' hw => ⟨b3, rfl, (hw.cast (by rw [show t = 64 by omega]; simp [wpad])).fresh⟩)
    )

theorem keys_any (w : World) :
  Calls Tryz.prog 137 #[] w fun e w' => ∃ b, e = .returned (.pointer (some ⟨b, 0, none⟩)) ∧ Fresh w w' (.cells b (kTab.map (.int .u32))) := by
 refine calls_of (n := 3) (E := []) (W := Hp w [] []) Tryz.func137 rfl rfl (Nat.le_of_ble_eq_true rfl) rfl (Hp.nil _ _) ?_; refine jsr ?_; refine jz ?_; refine jnt ?_; refine jsr ?_; refine jy (y_buildArr (Built.cell rfl rfl rfl (by repeat constructor) (Built.cell rfl rfl rfl (by repeat constructor) (Built.cell rfl rfl rfl (by repeat constructor) (Built.cell rfl rfl rfl (by repeat constructor) (Built.cell rfl rfl rfl (by repeat constructor) (Built.cell rfl rfl rfl (by repeat constructor) (Built.cell rfl rfl rfl (by repeat constructor) (Built.cell rfl rfl rfl (by repeat constructor) (Built.cell rfl rfl rfl (by repeat constructor) (Built.cell rfl rfl rfl (by repeat constructor) (Built.cell rfl rfl rfl (by repeat constructor) (Built.cell rfl rfl rfl (by repeat constructor) (Built.cell rfl rfl rfl (by repeat constructor) (Built.cell rfl rfl rfl (by repeat constructor) (Built.cell rfl rfl rfl (by repeat constructor) (Built.cell rfl rfl rfl (by repeat constructor) (Built.cell rfl rfl rfl (by repeat constructor) (Built.cell rfl rfl rfl (by repeat constructor) (Built.cell rfl rfl rfl (by repeat constructor) (Built.cell rfl rfl rfl (by repeat constructor) (Built.cell rfl rfl rfl (by repeat constructor) (Built.cell rfl rfl rfl (by repeat constructor) (Built.cell rfl rfl rfl (by repeat constructor) (Built.cell rfl rfl rfl (by repeat constructor) (Built.cell rfl rfl rfl (by repeat constructor) (Built.cell rfl rfl rfl (by repeat constructor) (Built.cell rfl rfl rfl (by repeat constructor) (Built.cell rfl rfl rfl (by repeat constructor) (Built.cell rfl rfl rfl (by repeat constructor) (Built.cell rfl rfl rfl (by repeat constructor) (Built.cell rfl rfl rfl (by repeat constructor) (Built.cell rfl rfl rfl (by repeat constructor) (Built.cell rfl rfl rfl (by repeat constructor) (Built.cell rfl rfl rfl (by repeat constructor) (Built.cell rfl rfl rfl (by repeat constructor) (Built.cell rfl rfl rfl (by repeat constructor) (Built.cell rfl rfl rfl (by repeat constructor) (Built.cell rfl rfl rfl (by repeat constructor) (Built.cell rfl rfl rfl (by repeat constructor) (Built.cell rfl rfl rfl (by repeat constructor) (Built.cell rfl rfl rfl (by repeat constructor) (Built.cell rfl rfl rfl (by repeat constructor) (Built.cell rfl rfl rfl (by repeat constructor) (Built.cell rfl rfl rfl (by repeat constructor) (Built.cell rfl rfl rfl (by repeat constructor) (Built.cell rfl rfl rfl (by repeat constructor) (Built.cell rfl rfl rfl (by repeat constructor) (Built.cell rfl rfl rfl (by repeat constructor) (Built.cell rfl rfl rfl (by repeat constructor) (Built.cell rfl rfl rfl (by repeat constructor) (Built.cell rfl rfl rfl (by repeat constructor) (Built.cell rfl rfl rfl (by repeat constructor) (Built.cell rfl rfl rfl (by repeat constructor) (Built.cell rfl rfl rfl (by repeat constructor) (Built.cell rfl rfl rfl (by repeat constructor) (Built.cell rfl rfl rfl (by repeat constructor) (Built.cell rfl rfl rfl (by repeat constructor) (Built.cell rfl rfl rfl (by repeat constructor) (Built.cell rfl rfl rfl (by repeat constructor) (Built.cell rfl rfl rfl (by repeat constructor) (Built.cell rfl rfl rfl (by repeat constructor) (Built.cell rfl rfl rfl (by repeat constructor) (Built.cell rfl rfl rfl (by repeat constructor) (Built.cell rfl rfl rfl (by repeat constructor) Built.nil))))))))))))))))))))))))))))))))))))))))))))))))))))))))))))))))) ?_
 refine jl_m rfl (by decide) rfl (m_box rfl rfl) (fun b2 => ?_); refine jz ?_; refine jnt ?_; refine jc_ret ?_; refine jq_ret1 rfl rfl ?_; exact fun w' hw => ⟨b2, rfl, hw.fresh⟩

theorem begin_any (w : World) :
  Calls Tryz.prog 128 #[] w fun e w' => e = .returned (.agg (st0.map (.int .u32)).toArray) ∧ Ch [] w w' := by
 refine calls_of (n := 2) (E := []) (W := Hp w [] []) Tryz.func128 rfl rfl (Nat.le_of_ble_eq_true rfl) rfl (Hp.nil _ _) ?_; refine jsr ?_; refine jl_m rfl (by decide) rfl (m_alloc) (fun b0 => ?_); refine jnt ?_; refine jsr ?_; refine jy (y_buildArr (Built.cell rfl rfl rfl (by repeat constructor) (Built.cell rfl rfl rfl (by repeat constructor) (Built.cell rfl rfl rfl (by repeat constructor) (Built.cell rfl rfl rfl (by repeat constructor) (Built.cell rfl rfl rfl (by repeat constructor) (Built.cell rfl rfl rfl (by repeat constructor) (Built.cell rfl rfl rfl (by repeat constructor) (Built.cell rfl rfl rfl (by repeat constructor) Built.nil))))))))) ?_; refine jst ?_; refine jnt ?_; refine jc_ret ?_; refine jq_res (.inl rfl) rfl (rca .nil) ?_; exact fun w' hw => ⟨rfl, hw.ch⟩


theorem rnds_succ (ws : List Int) (v : S8) (t : Nat) : rnds ws v (t + 1) = rnd (kTab.getD t 0) (ws.getD t 0) (rnds ws v t) := rfl
theorem eight {st : List Int} (h : st.length = 8) : ∃ a b c d e f g h, st = [a, b, c, d, e, f, g, h] := by
  match st, h with
  | [a, b, c, d, e, f, g, h], _ => exact ⟨a, b, c, d, e, f, g, h, rfl⟩
theorem kTab_length : kTab.length = 64 := rfl

theorem mix_any (b : Nat) (st : List Int) (tl : List Value) (s : ByteArray) (w : World) (hst : st.length = 8) (hs : s.size = 64) (h0 : HA.ok w (.cells b (st.map (.int .u32) ++ tl))) :
  Calls Tryz.prog 129 #[.pointer (some ⟨b, 0, none⟩), .string s] w fun e w' => e = .returned (.tuple #[]) ∧ Upd w w' (.cells b (st.map (.int .u32) ++ tl)) (.cells b ((compress st (ints s)).map (.int .u32) ++ tl)) := by
 obtain ⟨x0, x1, x2, x3, x4, x5, x6, x7, rfl⟩ := eight hst
 refine calls_of (n := 144) (E := [(0, .pointer (some ⟨b, 0, none⟩)), (1, .string s)]) (W := Hp w [b] [.cells b (([x0, x1, x2, x3, x4, x5, x6, x7].map (.int .u32)) ++ tl)]) Tryz.func129 rfl rfl (Nat.le_of_ble_eq_true rfl) rfl (Hp.start rfl h0) ?_; refine jsr ?_; refine jz ?_; refine jl_fcall rfl (by decide) rfl (goes_func rfl) (fun w1 hw1 => schedule_any s w1 hs) (fun b32 => ?_); refine jl_fcall rfl (by decide) rfl (goes_func rfl) (fun w1 hw1 => keys_any w1) (fun b33 => ?_); (iterate 2 refine jz ?_); refine jnt ?_; refine jc_seq ?_; refine jc_draw (by kernel_rfl) (fun _ h => h.drew) ?_; (iterate 2 refine juz ?_); refine juy (yia rfl rfl) ?_; (iterate 3 refine juz ?_); refine juy (yia rfl rfl) ?_; (iterate 3 refine juz ?_); refine juy (yia rfl rfl) ?_; (iterate 3 refine juz ?_); refine juy (yia rfl rfl) ?_; (iterate 5 refine juz ?_); refine ju_nil ?_; refine jq_then ?_; refine jc_seq ?_; refine jc_draw (by kernel_rfl) (fun _ h => h.drew) ?_; (iterate 2 refine juz ?_); refine juy (yia rfl rfl) ?_; (iterate 3 refine juz ?_); refine juy (yia rfl rfl) ?_; (iterate 3 refine juz ?_); refine juy (yia rfl rfl) ?_; (iterate 3 refine juz ?_); refine juy (yia rfl rfl) ?_; (iterate 5 refine juz ?_); refine ju_nil ?_; refine jq_then ?_; refine jc_seq ?_; refine jsr ?_; refine jz ?_; refine jnt ?_; refine jc_block ?_; refine jc_loop (ι := Nat) (fun t => [(0, .pointer (some ⟨b, 0, none⟩)), (4, .pointer (some ⟨b32, 0, none⟩)), (5, .pointer (some ⟨b33, 0, none⟩)), (6, .int .u32 (rnds (wds (ints s) 64) ⟨x0, x1, x2, x3, x4, x5, x6, x7⟩ t).a), (7, .int .u32 (rnds (wds (ints s) 64) ⟨x0, x1, x2, x3, x4, x5, x6, x7⟩ t).b), (8, .int .u32 (rnds (wds (ints s) 64) ⟨x0, x1, x2, x3, x4, x5, x6, x7⟩ t).c), (9, .int .u32 (rnds (wds (ints s) 64) ⟨x0, x1, x2, x3, x4, x5, x6, x7⟩ t).d), (10, .int .u32 (rnds (wds (ints s) 64) ⟨x0, x1, x2, x3, x4, x5, x6, x7⟩ t).e), (11, .int .u32 (rnds (wds (ints s) 64) ⟨x0, x1, x2, x3, x4, x5, x6, x7⟩ t).f), (12, .int .u32 (rnds (wds (ints s) 64) ⟨x0, x1, x2, x3, x4, x5, x6, x7⟩ t).g), (13, .int .u32 (rnds (wds (ints s) 64) ⟨x0, x1, x2, x3, x4, x5, x6, x7⟩ t).h), (54, .int .i64 (t : Nat))]) (fun t => fun w' => t ≤ 64 ∧ Hp w [b] [.cells b33 (kTab.map (.int .u32)), .cells b32 ((wds (ints s) 64).map (.int .u32)), .cells b (([x0, x1, x2, x3, x4, x5, x6, x7].map (.int .u32)) ++ tl)] w') (fun t => 64 - t) 0 ?_ ?_ ?_
 ·exact ⟨rfl, rfl, rfl, rfl, rfl, rfl, rfl, rfl, rfl, rfl, rfl, rfl, trivial⟩
 ·exact fun _ h => ⟨by omega, h⟩
 ·rintro t
  refine jc_and (fun ht => ?_); refine jsr ?_; refine jy (y_lss rfl rfl) ?_; refine jl_prop (fun h55 => ?_) (fun h55 => ?_)
  ·first | (exfalso; omega) | (
    refine jnt ?_; refine jc_seq ?_; refine jc_true rfl ?_; refine jc_skip ?_; refine jq_then ?_; refine jc_seq ?_; refine jc_block ?_; refine jsr ?_; (iterate 2 refine jz ?_); refine jnt ?_; refine jc_seq ?_; refine jc_draw (by kernel_rfl) (fun _ h => h.drew) ?_; (iterate 2 refine juz ?_); refine ju_call rfl (by decide) rfl (goes_func rfl) (fun w1 hw1 => pcall hw1 (turn_any _ _ w1 (by omega) (by omega))) ?_; refine juz ?_; refine ju_call rfl (by decide) rfl (goes_func rfl) (fun w1 hw1 => pcall hw1 (turn_any _ _ w1 (by omega) (by omega))) ?_; refine juy (y_xor rfl rfl) ?_; refine juz ?_; refine ju_call rfl (by decide) rfl (goes_func rfl) (fun w1 hw1 => pcall hw1 (turn_any _ _ w1 (by omega) (by omega))) ?_; refine juy (y_xor rfl rfl) ?_; refine juy (y_add_u32 rfl rfl) ?_; (iterate 2 refine juz ?_); refine juy (y_and rfl rfl) ?_; refine juz ?_; refine juy (y_not_u32 rfl) ?_; refine juz ?_; refine juy (y_and rfl rfl) ?_; refine juy (y_xor rfl rfl) ?_; refine juy (y_add_u32 rfl rfl) ?_; (iterate 3 refine juz ?_); refine juy (yia rfl rfl) ?_; refine juy (y_load rfl mem0 (map_get _ _ _ (by rw [kTab_length]; omega))) ?_; refine juy (y_add_u32 rfl rfl) ?_; (iterate 3 refine juz ?_); refine juy (yia rfl rfl) ?_; refine juy (y_load rfl mem1 (map_get _ _ _ (by rw [wds_length]; omega))) ?_; refine juy (y_add_u32 rfl rfl) ?_; refine juz ?_; refine ju_nil ?_; refine jq_then ?_; refine jsr ?_; refine jz ?_; refine jpc (goes_func rfl) (fun w1 hw1 => turn_any _ _ w1 (by omega) (by omega)) ?_; refine jz ?_; refine jpc (goes_func rfl) (fun w1 hw1 => turn_any _ _ w1 (by omega) (by omega)) ?_; refine jy (y_xor rfl rfl) ?_; refine jz ?_; refine jpc (goes_func rfl) (fun w1 hw1 => turn_any _ _ w1 (by omega) (by omega)) ?_; refine jy (y_xor rfl rfl) ?_; (iterate 2 refine jz ?_); refine jy (y_and rfl rfl) ?_; (iterate 2 refine jz ?_); refine jy (y_and rfl rfl) ?_; refine jy (y_xor rfl rfl) ?_; (iterate 2 refine jz ?_); refine jy (y_and rfl rfl) ?_; refine jy (y_xor rfl rfl) ?_; refine jy (y_add_u32 rfl rfl) ?_; refine jz ?_; refine jnt ?_; refine jsr ?_; (iterate 5 refine jz ?_); refine jy (y_add_u32 rfl rfl) ?_; (iterate 4 refine jz ?_); refine jnt ?_; refine jc_region ?_; (iterate 5 refine jz ?_); refine jy (y_add_u32 rfl rfl) ?_; (iterate 4 refine jz ?_); refine jl_nil ?_; refine jq_block ?_; refine jq_then ?_; refine jc_region ?_; refine jy (yaf rfl rfl) ?_; refine jz ?_; refine jl_nil ?_; refine jq_round (ι := Nat) (t + 1) ?_ ?_ ?_
    ·omega
    ·exact ⟨rfl, rfl, rfl, rfl, rfl, rfl, rfl, rfl, rfl, rfl, rfl, lk_int rfl (by omega), trivial⟩
    ·exact fun _ h => ⟨by omega, h⟩
    )
  ·first | (exfalso; omega) | (
    refine jnt ?_; refine jc_seq ?_; refine jc_false rfl ?_; refine jc_exit ?_; (iterate 2 refine jq_then_exit ?_); refine jq_hit ?_; refine jq_then ?_; refine jsr ?_; (iterate 8 refine jz ?_); refine jy (y_buildArr (Built.cell rfl rfl rfl (by repeat constructor) (Built.cell rfl rfl rfl (by repeat constructor) (Built.cell rfl rfl rfl (by repeat constructor) (Built.cell rfl rfl rfl (by repeat constructor) (Built.cell rfl rfl rfl (by repeat constructor) (Built.cell rfl rfl rfl (by repeat constructor) (Built.cell rfl rfl rfl (by repeat constructor) (Built.cell rfl rfl rfl (by repeat constructor) Built.nil))))))))) ?_; refine jz ?_; refine jnt ?_; refine jc_block ?_; refine jc_rounds 9 ?_; refine jr_succ ?_; refine jsr ?_; refine jy (y_lss rfl rfl) ?_; refine jl_prop (fun h131 => ?_) (fun h131 => ?_)
    ·skip
     refine jnt ?_; refine jc_seq ?_; refine jc_true rfl ?_; refine jc_skip ?_; refine jq_then ?_; refine jc_seq ?_; refine jc_block ?_; refine jsr ?_; refine jz ?_; refine jy (y_index_arr rfl rfl (by omega) (by omega) rfl) ?_; (iterate 2 refine jz ?_); refine jnt ?_; refine jc_tail 9 (by kernel_rfl) (fun _ h => h.drew) ?_
     simp only [List.take_succ_cons, List.take_zero, List.drop_succ_cons, List.drop_zero]
     (iterate 3 refine jtz ?_); refine jty (yia rfl rfl) ?_; (iterate 2 refine jtz ?_); refine jty (y_add_u32 rfl rfl) ?_; refine jtz ?_; refine jty (yia rfl rfl) ?_; refine jt_nil ?_; refine jst ?_; refine jl_nil ?_; refine jq_block ?_; refine jq_then ?_; refine jc_region ?_; refine jy (yaf rfl rfl) ?_; refine jz ?_; refine jl_nil ?_; refine jq_again ?_; refine jr_succ ?_; refine jsr ?_; refine jy (y_lss rfl rfl) ?_; refine jl_prop (fun h131 => ?_) (fun h131 => ?_)
     ·skip
      refine jnt ?_; refine jc_seq ?_; refine jc_true rfl ?_; refine jc_skip ?_; refine jq_then ?_; refine jc_seq ?_; refine jc_block ?_; refine jsr ?_; refine jz ?_; refine jy (y_index_arr rfl rfl (by omega) (by omega) rfl) ?_; (iterate 2 refine jz ?_); refine jnt ?_; refine jc_tail 9 (by kernel_rfl) (fun _ h => h.drew) ?_
      simp only [List.take_succ_cons, List.take_zero, List.drop_succ_cons, List.drop_zero]
      (iterate 3 refine jtz ?_); refine jty (yia rfl rfl) ?_; (iterate 2 refine jtz ?_); refine jty (y_add_u32 rfl rfl) ?_; refine jtz ?_; refine jty (yia rfl rfl) ?_; refine jt_nil ?_; refine jst ?_; refine jl_nil ?_; refine jq_block ?_; refine jq_then ?_; refine jc_region ?_; refine jy (yaf rfl rfl) ?_; refine jz ?_; refine jl_nil ?_; refine jq_again ?_; refine jr_succ ?_; refine jsr ?_; refine jy (y_lss rfl rfl) ?_; refine jl_prop (fun h131 => ?_) (fun h131 => ?_)
      ·skip
       refine jnt ?_; refine jc_seq ?_; refine jc_true rfl ?_; refine jc_skip ?_; refine jq_then ?_; refine jc_seq ?_; refine jc_block ?_; refine jsr ?_; refine jz ?_; refine jy (y_index_arr rfl rfl (by omega) (by omega) rfl) ?_; (iterate 2 refine jz ?_); refine jnt ?_; refine jc_tail 9 (by kernel_rfl) (fun _ h => h.drew) ?_
       simp only [List.take_succ_cons, List.take_zero, List.drop_succ_cons, List.drop_zero]
       (iterate 3 refine jtz ?_); refine jty (yia rfl rfl) ?_; (iterate 2 refine jtz ?_); refine jty (y_add_u32 rfl rfl) ?_; refine jtz ?_; refine jty (yia rfl rfl) ?_; refine jt_nil ?_; refine jst ?_; refine jl_nil ?_; refine jq_block ?_; refine jq_then ?_; refine jc_region ?_; refine jy (yaf rfl rfl) ?_; refine jz ?_; refine jl_nil ?_; refine jq_again ?_; refine jr_succ ?_; refine jsr ?_; refine jy (y_lss rfl rfl) ?_; refine jl_prop (fun h131 => ?_) (fun h131 => ?_)
       ·skip
        refine jnt ?_; refine jc_seq ?_; refine jc_true rfl ?_; refine jc_skip ?_; refine jq_then ?_; refine jc_seq ?_; refine jc_block ?_; refine jsr ?_; refine jz ?_; refine jy (y_index_arr rfl rfl (by omega) (by omega) rfl) ?_; (iterate 2 refine jz ?_); refine jnt ?_; refine jc_tail 9 (by kernel_rfl) (fun _ h => h.drew) ?_
        simp only [List.take_succ_cons, List.take_zero, List.drop_succ_cons, List.drop_zero]
        (iterate 3 refine jtz ?_); refine jty (yia rfl rfl) ?_; (iterate 2 refine jtz ?_); refine jty (y_add_u32 rfl rfl) ?_; refine jtz ?_; refine jty (yia rfl rfl) ?_; refine jt_nil ?_; refine jst ?_; refine jl_nil ?_; refine jq_block ?_; refine jq_then ?_; refine jc_region ?_; refine jy (yaf rfl rfl) ?_; refine jz ?_; refine jl_nil ?_; refine jq_again ?_; refine jr_succ ?_; refine jsr ?_; refine jy (y_lss rfl rfl) ?_; refine jl_prop (fun h131 => ?_) (fun h131 => ?_)
        ·skip
         refine jnt ?_; refine jc_seq ?_; refine jc_true rfl ?_; refine jc_skip ?_; refine jq_then ?_; refine jc_seq ?_; refine jc_block ?_; refine jsr ?_; refine jz ?_; refine jy (y_index_arr rfl rfl (by omega) (by omega) rfl) ?_; (iterate 2 refine jz ?_); refine jnt ?_; refine jc_tail 9 (by kernel_rfl) (fun _ h => h.drew) ?_
         simp only [List.take_succ_cons, List.take_zero, List.drop_succ_cons, List.drop_zero]
         (iterate 3 refine jtz ?_); refine jty (yia rfl rfl) ?_; (iterate 2 refine jtz ?_); refine jty (y_add_u32 rfl rfl) ?_; refine jtz ?_; refine jty (yia rfl rfl) ?_; refine jt_nil ?_; refine jst ?_; refine jl_nil ?_; refine jq_block ?_; refine jq_then ?_; refine jc_region ?_; refine jy (yaf rfl rfl) ?_; refine jz ?_; refine jl_nil ?_; refine jq_again ?_; refine jr_succ ?_; refine jsr ?_; refine jy (y_lss rfl rfl) ?_; refine jl_prop (fun h131 => ?_) (fun h131 => ?_)
         ·skip
          refine jnt ?_; refine jc_seq ?_; refine jc_true rfl ?_; refine jc_skip ?_; refine jq_then ?_; refine jc_seq ?_; refine jc_block ?_; refine jsr ?_; refine jz ?_; refine jy (y_index_arr rfl rfl (by omega) (by omega) rfl) ?_; (iterate 2 refine jz ?_); refine jnt ?_; refine jc_tail 9 (by kernel_rfl) (fun _ h => h.drew) ?_
          simp only [List.take_succ_cons, List.take_zero, List.drop_succ_cons, List.drop_zero]
          (iterate 3 refine jtz ?_); refine jty (yia rfl rfl) ?_; (iterate 2 refine jtz ?_); refine jty (y_add_u32 rfl rfl) ?_; refine jtz ?_; refine jty (yia rfl rfl) ?_; refine jt_nil ?_; refine jst ?_; refine jl_nil ?_; refine jq_block ?_; refine jq_then ?_; refine jc_region ?_; refine jy (yaf rfl rfl) ?_; refine jz ?_; refine jl_nil ?_; refine jq_again ?_; refine jr_succ ?_; refine jsr ?_; refine jy (y_lss rfl rfl) ?_; refine jl_prop (fun h131 => ?_) (fun h131 => ?_)
          ·skip
           refine jnt ?_; refine jc_seq ?_; refine jc_true rfl ?_; refine jc_skip ?_; refine jq_then ?_; refine jc_seq ?_; refine jc_block ?_; refine jsr ?_; refine jz ?_; refine jy (y_index_arr rfl rfl (by omega) (by omega) rfl) ?_; (iterate 2 refine jz ?_); refine jnt ?_; refine jc_tail 9 (by kernel_rfl) (fun _ h => h.drew) ?_
           simp only [List.take_succ_cons, List.take_zero, List.drop_succ_cons, List.drop_zero]
           (iterate 3 refine jtz ?_); refine jty (yia rfl rfl) ?_; (iterate 2 refine jtz ?_); refine jty (y_add_u32 rfl rfl) ?_; refine jtz ?_; refine jty (yia rfl rfl) ?_; refine jt_nil ?_; refine jst ?_; refine jl_nil ?_; refine jq_block ?_; refine jq_then ?_; refine jc_region ?_; refine jy (yaf rfl rfl) ?_; refine jz ?_; refine jl_nil ?_; refine jq_again ?_; refine jr_succ ?_; refine jsr ?_; refine jy (y_lss rfl rfl) ?_; refine jl_prop (fun h131 => ?_) (fun h131 => ?_)
           ·skip
            refine jnt ?_; refine jc_seq ?_; refine jc_true rfl ?_; refine jc_skip ?_; refine jq_then ?_; refine jc_seq ?_; refine jc_block ?_; refine jsr ?_; refine jz ?_; refine jy (y_index_arr rfl rfl (by omega) (by omega) rfl) ?_; (iterate 2 refine jz ?_); refine jnt ?_; refine jc_tail 9 (by kernel_rfl) (fun _ h => h.drew) ?_
            simp only [List.take_succ_cons, List.take_zero, List.drop_succ_cons, List.drop_zero]
            (iterate 3 refine jtz ?_); refine jty (yia rfl rfl) ?_; (iterate 2 refine jtz ?_); refine jty (y_add_u32 rfl rfl) ?_; refine jtz ?_; refine jty (yia rfl rfl) ?_; refine jt_nil ?_; refine jst ?_; refine jl_nil ?_; refine jq_block ?_; refine jq_then ?_; refine jc_region ?_; refine jy (yaf rfl rfl) ?_; refine jz ?_; refine jl_nil ?_; refine jq_again ?_; refine jr_succ ?_; refine jsr ?_; refine jy (y_lss rfl rfl) ?_; refine jl_prop (fun h131 => ?_) (fun h131 => ?_)
            ·exfalso; omega
            ·skip
             refine jnt ?_; refine jc_seq ?_; refine jc_false rfl ?_; refine jc_exit ?_; (iterate 2 refine jq_then_exit ?_); refine jq_hit ?_; refine jq_end0 rfl ?_; exact fun w' hw => ⟨rfl, Hp.updd rfl ((hw.part (.cons del2 .nil)).cast (by have e : t = 64 := (by omega); subst e; rfl))⟩
           ·exfalso; omega
          ·exfalso; omega
         ·exfalso; omega
        ·exfalso; omega
       ·exfalso; omega
      ·exfalso; omega
     ·exfalso; omega
    ·exfalso; omega
    )

end Go.Proofs.YtghomncegjamfaaGreat