/- The walks of package turnstileref02. Written by program (walk.py) out of a table of contracts and invariants. -/
import Derived.Test.YtghomncegjamfaaGreatShb
import Derived.Test.YtghomncegjamfaaGreatJg
namespace Go.Proofs.YtghomncegjamfaaGreat
open Go.RowKit
set_option maxRecDepth 100000
set_option linter.unusedVariables false
set_option linter.unusedSimpArgs false
attribute [local irreducible] Yields Makes Writes
def B8 (l : List Int) : Prop := ∀ i, 0 ≤ l.getD i 0 ∧ l.getD i 0 ≤ 255
theorem getD_range {l : List Int} (h : ∀ x ∈ l, 0 ≤ x ∧ x ≤ 255) : B8 l := fun i => by
  rw [List.getD_eq_getElem?_getD]
  cases h2 : l[i]? with
  | none => simp
  | some x => exact h x (List.mem_of_getElem? h2)
theorem be4_eq (l : List Int) (t : Nat) (h : B8 l) : (((l.getD (4 * t) 0 * 16777216 % 4294967296 + l.getD (4 * t + 1) 0 * 65536 % 4294967296) % 4294967296 + l.getD (4 * t + 2) 0 * 256 % 4294967296) % 4294967296 + l.getD (4 * t + 3) 0) % 4294967296 = be4 l t := by
  have h0 := h (4 * t); have h1 := h (4 * t + 1); have h2 := h (4 * t + 2); have h3 := h (4 * t + 3)
  unfold be4; omega

theorem r_any (x q : Int) (w : World) (h0 : 0 ≤ q) (h1 : q ≤ 32) :
  Calls Tryz.prog 140 #[.int .u32 x, .int .i64 q] w fun e w' => e = .returned (.int .u32 (rotr x q)) ∧ Ch [] w w' := by
 refine calls_of (n := 13) (E := [(0, .int .u32 x), (1, .int .i64 q)]) (W := Hp w [] []) Tryz.func140 rfl rfl (Nat.le_of_ble_eq_true rfl) rfl (Hp.nil _ _) ?_; refine jsr ?_; refine jz ?_; refine jnt ?_; refine jc_seq ?_; refine jc_draw (by kernel_rfl) (fun _ h => h.drew) ?_; (iterate 2 refine juz ?_); refine juy (y_shr rfl rfl (by omega) (by simp only [IntKind.bits]; omega)) ?_; (iterate 2 refine juz ?_); refine juy (ysf rfl rfl) ?_; refine juy (y_shl_u32 rfl rfl (by omega) (by omega)) ?_; refine juy (y_or rfl rfl) ?_; refine juz ?_; refine ju_nil ?_; refine jq_then ?_; refine jc_ret ?_; refine jq_ret1 rfl rfl ?_; exact fun _ hw => ⟨rfl, hw.ch⟩

theorem rkeys_any (w : World) :
  Calls Tryz.prog 132 #[] w fun e w' => ∃ b, e = .returned (.slice (some ⟨b, 0, none⟩) 64 64) ∧ Fresh w w' (.row (some ⟨b, 0, none⟩) (64) (64) 166 1 ((kTab).map (.int .u32))) := by
 refine calls_of (n := 2) (E := []) (W := Hp w [] []) Tryz.func132 rfl rfl (Nat.le_of_ble_eq_true rfl) rfl (Hp.nil _ _) ?_; refine jsr ?_; refine jz ?_; refine jnt ?_; refine jsr ?_; refine jl_m rfl (by decide) rfl (m_buildSlice (by decide) (Built.cell rfl rfl rfl (by repeat constructor) (Built.cell rfl rfl rfl (by repeat constructor) (Built.cell rfl rfl rfl (by repeat constructor) (Built.cell rfl rfl rfl (by repeat constructor) (Built.cell rfl rfl rfl (by repeat constructor) (Built.cell rfl rfl rfl (by repeat constructor) (Built.cell rfl rfl rfl (by repeat constructor) (Built.cell rfl rfl rfl (by repeat constructor) (Built.cell rfl rfl rfl (by repeat constructor) (Built.cell rfl rfl rfl (by repeat constructor) (Built.cell rfl rfl rfl (by repeat constructor) (Built.cell rfl rfl rfl (by repeat constructor) (Built.cell rfl rfl rfl (by repeat constructor) (Built.cell rfl rfl rfl (by repeat constructor) (Built.cell rfl rfl rfl (by repeat constructor) (Built.cell rfl rfl rfl (by repeat constructor) (Built.cell rfl rfl rfl (by repeat constructor) (Built.cell rfl rfl rfl (by repeat constructor) (Built.cell rfl rfl rfl (by repeat constructor) (Built.cell rfl rfl rfl (by repeat constructor) (Built.cell rfl rfl rfl (by repeat constructor) (Built.cell rfl rfl rfl (by repeat constructor) (Built.cell rfl rfl rfl (by repeat constructor) (Built.cell rfl rfl rfl (by repeat constructor) (Built.cell rfl rfl rfl (by repeat constructor) (Built.cell rfl rfl rfl (by repeat constructor) (Built.cell rfl rfl rfl (by repeat constructor) (Built.cell rfl rfl rfl (by repeat constructor) (Built.cell rfl rfl rfl (by repeat constructor) (Built.cell rfl rfl rfl (by repeat constructor) (Built.cell rfl rfl rfl (by repeat constructor) (Built.cell rfl rfl rfl (by repeat constructor) (Built.cell rfl rfl rfl (by repeat constructor) (Built.cell rfl rfl rfl (by repeat constructor) (Built.cell rfl rfl rfl (by repeat constructor) (Built.cell rfl rfl rfl (by repeat constructor) (Built.cell rfl rfl rfl (by repeat constructor) (Built.cell rfl rfl rfl (by repeat constructor) (Built.cell rfl rfl rfl (by repeat constructor) (Built.cell rfl rfl rfl (by repeat constructor) (Built.cell rfl rfl rfl (by repeat constructor) (Built.cell rfl rfl rfl (by repeat constructor) (Built.cell rfl rfl rfl (by repeat constructor) (Built.cell rfl rfl rfl (by repeat constructor) (Built.cell rfl rfl rfl (by repeat constructor) (Built.cell rfl rfl rfl (by repeat constructor) (Built.cell rfl rfl rfl (by repeat constructor) (Built.cell rfl rfl rfl (by repeat constructor) (Built.cell rfl rfl rfl (by repeat constructor) (Built.cell rfl rfl rfl (by repeat constructor) (Built.cell rfl rfl rfl (by repeat constructor) (Built.cell rfl rfl rfl (by repeat constructor) (Built.cell rfl rfl rfl (by repeat constructor) (Built.cell rfl rfl rfl (by repeat constructor) (Built.cell rfl rfl rfl (by repeat constructor) (Built.cell rfl rfl rfl (by repeat constructor) (Built.cell rfl rfl rfl (by repeat constructor) (Built.cell rfl rfl rfl (by repeat constructor) (Built.cell rfl rfl rfl (by repeat constructor) (Built.cell rfl rfl rfl (by repeat constructor) (Built.cell rfl rfl rfl (by repeat constructor) (Built.cell rfl rfl rfl (by repeat constructor) (Built.cell rfl rfl rfl (by repeat constructor) (Built.cell rfl rfl rfl (by repeat constructor) Built.nil))))))))))))))))))))))))))))))))))))))))))))))))))))))))))))))))) (fun b1 => ?_)
 refine jz ?_; refine jnt ?_; refine jc_ret ?_; refine jq_ret1 rfl rfl ?_; exact fun w' hw => ⟨b1, rfl, hw.fresh⟩

theorem words_any (b o c : Nat) (L : List Int) (w : World) (hl : L.length = 64) (hL : B8 L) (h0 : Old w b o (L.map (.int .u8))) :
  Calls Tryz.prog 139 #[.slice (some ⟨b, o, none⟩) 64 c] w fun e w' => ∃ b, e = .returned (.slice (some ⟨b, 0, none⟩) 64 64) ∧ Fresh w w' (.row (some ⟨b, 0, none⟩) (64) (64) 166 1 ((wds L 64).map (.int .u32))) := by
 refine calls_of (n := 100) (E := [(0, .slice (some ⟨b, o, none⟩) 64 c)]) (W := Hp w [] []) Tryz.func139 rfl rfl (Nat.le_of_ble_eq_true rfl) rfl (Hp.nil _ _) ?_; refine jsr ?_; refine jz ?_; refine jnt ?_; refine jsr ?_; refine jl_m rfl (by decide) rfl (m_make rfl rfl (by first | omega | decide) (by first | omega | decide)) (fun b10 => ?_); refine jz ?_; refine jnt ?_; refine jc_seq ?_; refine jsr ?_; refine jz ?_; refine jnt ?_; refine jc_block ?_; refine jc_loop (fun (t : Nat) => [(0, .slice (some ⟨b, o, none⟩) 64 c), (3, .slice (some ⟨b10, 0, none⟩) 64 64), (4, .int .i64 (t : Nat))]) (fun (t : Nat) => fun w' => t ≤ 16 ∧ Hp w [] [.row (some ⟨b10, 0, none⟩) (64) (64) 166 1 ((wpad L t).map (.int .u32))] w') (fun (t : Nat) => 16 - t) 0 ?_ ?_ ?_
 ·exact ⟨rfl, rfl, rfl, trivial⟩
 ·exact fun _ h => ⟨by omega, h.cast (by rw [toList_madeCells_one]; simp [wpad, wds])⟩
 ·intro t
  refine jc_and (fun ht => ?_); refine jc_seq ?_; refine jsr ?_; refine jz ?_; refine jy (y_lss rfl rfl) ?_; refine jl_prop (fun h12 => ?_) (fun h12 => ?_)
  ·first | (exfalso; omega) | (
    refine jnt ?_; refine jc_true rfl ?_; refine jc_skip ?_; refine jq_then ?_; refine jc_seq ?_; refine jc_block ?_; refine jc_tail 36 (by kernel_rfl) (fun _ h => h.drew) ?_
    simp only [List.take_succ_cons, List.take_zero, List.drop_succ_cons, List.drop_zero]
    (iterate 4 refine jtz ?_); refine jty (y_mul_fits rfl rfl (by simp only [fits]; omega)) ?_; refine jty (y_indexAddr_slice (off := o + 4 * t) rfl rfl (by omega) (by omega) (by omega)) ?_; refine jty (y_load_old rfl (h0.at _ (by omega)) (by simp)) ?_; refine jty (y_conv_fits rfl (by have := hL (4 * t); simp only [fits]; omega)) ?_; refine jty (y_mul_u32 rfl rfl) ?_; (iterate 2 refine jtz ?_); refine jty (y_mul_fits rfl rfl (by simp only [fits]; omega)) ?_; refine jty (yaf rfl rfl) ?_; refine jty (y_indexAddr_slice (off := o + (4 * t + 1)) rfl rfl (by omega) (by omega) (by omega)) ?_; refine jty (y_load_old rfl (h0.at _ (by omega)) (by simp)) ?_; refine jty (y_conv_fits rfl (by have := hL (4 * t + 1); simp only [fits]; omega)) ?_; refine jty (y_mul_u32 rfl rfl) ?_; refine jty (y_add_u32 rfl rfl) ?_; (iterate 2 refine jtz ?_); refine jty (y_mul_fits rfl rfl (by simp only [fits]; omega)) ?_; refine jty (yaf rfl rfl) ?_; refine jty (y_indexAddr_slice (off := o + (4 * t + 2)) rfl rfl (by omega) (by omega) (by omega)) ?_; refine jty (y_load_old rfl (h0.at _ (by omega)) (by simp)) ?_; refine jty (y_conv_fits rfl (by have := hL (4 * t + 2); simp only [fits]; omega)) ?_; refine jty (y_mul_u32 rfl rfl) ?_; refine jty (y_add_u32 rfl rfl) ?_; (iterate 2 refine jtz ?_); refine jty (y_mul_fits rfl rfl (by simp only [fits]; omega)) ?_; refine jty (yaf rfl rfl) ?_; refine jty (y_indexAddr_slice (off := o + (4 * t + 3)) rfl rfl (by omega) (by omega) (by omega)) ?_; refine jty (y_load_old rfl (h0.at _ (by omega)) (by simp)) ?_; refine jty (y_conv_fits rfl (by have := hL (4 * t + 3); simp only [fits]; omega)) ?_; refine jty (y_add_u32 rfl rfl) ?_; refine jt_as (u := .int .u32 (wnext L (wds L t) t)) (by rw [be4_eq L t hL, wnext, if_pos (by omega)]) ?_; refine jty (y_indexAddr_slice (off := t) rfl rfl (by omega) (by omega) (by omega)) ?_; refine jt_nil ?_; refine jl_w rfl rfl (w_store_row rfl rfl rfl (by rw [List.length_map, wpad_length _ _ (by omega)]; omega) rep0) ?_; refine jl_nil ?_; refine jq_block ?_; refine jq_then ?_; refine jc_region ?_; refine jz ?_; refine jy (yaf rfl rfl) ?_; refine jz ?_; refine jl_nil ?_; refine jq_round (i := t) (t + 1) ?_ ?_ ?_
    ·omega
    ·exact ⟨rfl, rfl, lk_int rfl (by omega), trivial⟩
    ·exact fun _ h => ⟨by omega, h.cast (by rw [map_set, wpad_set _ _ (by omega)])⟩
    )
  ·first | (exfalso; omega) | (
    refine jnt ?_; refine jc_false rfl ?_; refine jc_exit ?_; (iterate 2 refine jq_then_exit ?_); refine jq_hit ?_; refine jq_then ?_; refine jc_seq ?_; refine jsr ?_; refine jz ?_; refine jnt ?_; refine jc_block ?_; refine jc_loop (fun (t : Nat) => [(3, .slice (some ⟨b10, 0, none⟩) 64 64), (5, .int .i64 (t : Nat))]) (fun (t : Nat) => fun w' => (16 ≤ t ∧ t ≤ 64) ∧ Hp w [] [.row (some ⟨b10, 0, none⟩) (64) (64) 166 1 ((wpad L t).map (.int .u32))] w') (fun (t : Nat) => 64 - t) 16 ?_ ?_ ?_
    ·exact ⟨rfl, rfl, trivial⟩
    ·exact fun _ h => ⟨by omega, h.cast (by have e : t = 16 := (by omega); rw [e])⟩
    ·intro t
     refine jc_and (fun ht2 => ?_); refine jc_seq ?_; refine jsr ?_; refine jz ?_; refine jy (y_lss rfl rfl) ?_; refine jl_prop (fun h52 => ?_) (fun h52 => ?_)
     ·first | (exfalso; omega) | (
       refine jnt ?_; refine jc_true rfl ?_; refine jc_skip ?_; refine jq_then ?_; refine jc_seq ?_; refine jc_block ?_; refine jsr ?_; (iterate 2 refine jz ?_); refine jy (ysf rfl rfl) ?_; refine jy (y_indexAddr_slice (off := t - 15) rfl rfl (by omega) (by omega) (by omega)) ?_; refine jy (y_load_row rfl mem0 (map_get _ _ _ (by rw [wpad_length _ _ (by omega)]; omega))) ?_; refine jl_as (congrArg _ (wpad_getD _ _ _ (by omega))) ?_; refine jz ?_; refine jnt ?_; refine jsr ?_; (iterate 2 refine jz ?_); refine jy (ysf rfl rfl) ?_; refine jy (y_indexAddr_slice (off := t - 2) rfl rfl (by omega) (by omega) (by omega)) ?_; refine jy (y_load_row rfl mem0 (map_get _ _ _ (by rw [wpad_length _ _ (by omega)]; omega))) ?_; refine jl_as (congrArg _ (wpad_getD _ _ _ (by omega))) ?_; refine jz ?_; refine jnt ?_; refine jsr ?_; refine jz ?_; refine jpc (goes_func rfl) (fun w1 hw1 => r_any _ _ w1 (by omega) (by omega)) ?_; refine jz ?_; refine jpc (goes_func rfl) (fun w1 hw1 => r_any _ _ w1 (by omega) (by omega)) ?_; refine jy (y_xor rfl rfl) ?_; refine jz ?_; refine jy (y_shr_by (m := 8) rfl rfl (by decide) (by decide) (by decide)) ?_; refine jy (y_xor rfl rfl) ?_; refine jz ?_; refine jnt ?_; refine jsr ?_; refine jz ?_; refine jpc (goes_func rfl) (fun w1 hw1 => r_any _ _ w1 (by omega) (by omega)) ?_; refine jz ?_; refine jpc (goes_func rfl) (fun w1 hw1 => r_any _ _ w1 (by omega) (by omega)) ?_; refine jy (y_xor rfl rfl) ?_; refine jz ?_; refine jy (y_shr_by (m := 1024) rfl rfl (by decide) (by decide) (by decide)) ?_; refine jy (y_xor rfl rfl) ?_; refine jz ?_; refine jnt ?_; refine jc_tail 18 (by kernel_rfl) (fun _ h => h.drew) ?_
       simp only [List.take_succ_cons, List.take_zero, List.drop_succ_cons, List.drop_zero]
       (iterate 5 refine jtz ?_); refine jty (ysf rfl rfl) ?_; refine jty (y_indexAddr_slice (off := t - 7) rfl rfl (by omega) (by omega) (by omega)) ?_; refine jty (y_load_row rfl mem0 (map_get _ _ _ (by rw [wpad_length _ _ (by omega)]; omega))) ?_; refine jt_as (congrArg _ (wpad_getD _ _ _ (by omega))) ?_; refine jty (y_add_u32 rfl rfl) ?_; refine jtz ?_; refine jty (y_add_u32 rfl rfl) ?_; (iterate 2 refine jtz ?_); refine jty (ysf rfl rfl) ?_; refine jty (y_indexAddr_slice (off := t - 16) rfl rfl (by omega) (by omega) (by omega)) ?_; refine jty (y_load_row rfl mem0 (map_get _ _ _ (by rw [wpad_length _ _ (by omega)]; omega))) ?_; refine jt_as (congrArg _ (wpad_getD _ _ _ (by omega))) ?_; refine jty (y_add_u32 rfl rfl) ?_; refine jt_as (u := .int .u32 (wnext L (wds L t) t)) (by rw [wnext, if_neg (by omega)]; rfl) ?_; refine jty (y_indexAddr_slice (off := t) rfl rfl (by omega) (by omega) (by omega)) ?_; refine jt_nil ?_; refine jl_w rfl rfl (w_store_row rfl rfl rfl (by rw [List.length_map, wpad_length _ _ (by omega)]; omega) rep0) ?_; refine jl_nil ?_; refine jq_block ?_; refine jq_then ?_; refine jc_region ?_; refine jz ?_; refine jy (yaf rfl rfl) ?_; refine jz ?_; refine jl_nil ?_; refine jq_round (i := t) (t + 1) ?_ ?_ ?_
       ·omega
       ·exact ⟨rfl, lk_int rfl (by omega), trivial⟩
       ·exact fun _ h => ⟨by omega, h.cast (by rw [map_set, wpad_set _ _ (by omega)])⟩
       )
     ·first | (exfalso; omega) | (refine jnt ?_; refine jc_false rfl ?_; refine jc_exit ?_; (iterate 2 refine jq_then_exit ?_); refine jq_hit ?_; refine jq_then ?_; refine jsr ?_; (iterate 2 refine jz ?_); refine jnt ?_; refine jc_ret ?_; refine jq_ret1 rfl rfl ?_; exact fun w' hw => ⟨b10, rfl, (hw.cast (by have e : t = 64 := (by omega); rw [e]; simp [wpad])).fresh⟩)
    )


def W32 (x : Int) : Prop := 0 ≤ x ∧ x < 4294967296
structure S8ok (v : S8) : Prop where
  a : W32 v.a
  b : W32 v.b
  c : W32 v.c
  d : W32 v.d
  e : W32 v.e
  f : W32 v.f
  g : W32 v.g
  h : W32 v.h
theorem rnd_ok (k w : Int) {v : S8} (h : S8ok v) : S8ok (rnd k w v) :=
  ⟨by simp only [rnd, W32]; omega, h.a, h.b, h.c, by simp only [rnd, W32]; omega, h.e, h.f, h.g⟩
theorem rnds_ok (ws : List Int) {v : S8} (h : S8ok v) (t : Nat) : S8ok (rnds ws v t) := by
  induction t with
  | zero => exact h
  | succ t ih => exact rnd_ok _ _ ih
def Okst (l : List Int) : Prop := ∀ x ∈ l, W32 x
theorem Okst.s8 {x0 x1 x2 x3 x4 x5 x6 x7 : Int} (h : Okst [x0, x1, x2, x3, x4, x5, x6, x7]) : S8ok ⟨x0, x1, x2, x3, x4, x5, x6, x7⟩ :=
  ⟨h _ (by simp), h _ (by simp), h _ (by simp), h _ (by simp), h _ (by simp), h _ (by simp), h _ (by simp), h _ (by simp)⟩
theorem st0_ok : Okst st0 := by
  intro x hx
  simp only [st0, List.mem_cons, List.not_mem_nil, or_false] at hx
  unfold W32
  omega
theorem plus8_ok : ∀ (xs ys : List Int), Okst (plus8 xs ys)
  | x :: xs, y :: ys => by
    intro z hz
    simp only [plus8, List.mem_cons] at hz
    rcases hz with rfl | hz
    · unfold W32; omega
    · exact plus8_ok xs ys z hz
  | [], _ => by intro z hz; simp [plus8] at hz
  | _ :: _, [] => by intro z hz; simp [plus8] at hz
theorem absorb_ok : ∀ (k : Nat) (st l : List Int), Okst st → Okst (absorb k st l)
  | 0, _, _, h => h
  | k + 1, st, l, _ => absorb_ok k _ _ (plus8_ok _ _)
theorem not_eq (e : Int) (h : W32 e) : bits .xor .u32 4294967295 e = 4294967295 - e := bits_not e h.1 h.2

set_option maxHeartbeats 1000000 in
theorem step_any (bs cs b o c bk ck : Nat) (st L : List Int) (w : World) (hst : st.length = 8) (hok : Okst st) (hl : L.length = 64) (hL : B8 L) (hS : Old w bs 0 (st.map (.int .u32))) (h0 : Old w b o (L.map (.int .u8))) (hK : Old w bk 0 (kTab.map (.int .u32))) :
  Calls Tryz.prog 133 #[.slice (some ⟨bs, 0, none⟩) 8 cs, .slice (some ⟨b, o, none⟩) 64 c, .slice (some ⟨bk, 0, none⟩) 64 ck] w fun e w' => ∃ p : Nat × Nat, e = .returned (.slice (some ⟨p.1, 0, none⟩) 8 p.2) ∧ Fresh w w' (.row (some ⟨p.1, 0, none⟩) (8) (p.2) 166 1 ((compress st L).map (.int .u32))) := by
 obtain ⟨x0, x1, x2, x3, x4, x5, x6, x7, rfl⟩ := eight hst
 have hv0 := hok.s8
 have hS1 : ∀ j u, (List.map (Value.int .u32) [x0, x1, x2, x3, x4, x5, x6, x7])[j]? = some u → w.cell? ⟨bs, j, none⟩ = some u := fun j u hj => (by have := hS j u hj; rwa [Nat.zero_add] at this)
 refine calls_of (n := 147) (E := [(0, .slice (some ⟨bs, 0, none⟩) 8 cs), (1, .slice (some ⟨b, o, none⟩) 64 c), (2, .slice (some ⟨bk, 0, none⟩) 64 ck)]) (W := Hp w [] []) Tryz.func133 rfl rfl (Nat.le_of_ble_eq_true rfl) rfl (Hp.nil _ _) ?_; refine jsr ?_; refine jz ?_; refine jnt ?_; refine jsr ?_; refine jz ?_; refine jl_fcall rfl (by decide) rfl (goes_func rfl) (fun w1 hw1 => words_any _ _ _ L w1 hl hL (fun j u hj => hw1.cell (h0 j u hj) (by simp))) (fun b7 => ?_); refine jz ?_; refine jnt ?_; refine jsr ?_; refine jl_m rfl (by decide) rfl (m_buildSlice (by decide) Built.nil) (fun b16 => ?_); refine jz ?_; refine jl_m2 rfl (by decide) rfl (m_append_of (news := [x0, x1, x2, x3, x4, x5, x6, x7].map (.int .u32)) rfl rfl del0 rfl (fun w1 hw1 j u hj => by rw [addr_add]; exact hw1.cell (hS j u hj) (by simp)) rfl (by decide) (by decide)) (fun ad8 c8 => ?_); refine jz ?_; refine jnt ?_; (iterate 2 refine jc_seq ?_); refine jc_pure (fun w1 h => row_some (h.ok _ (List.mem_cons_self ..)) (by decide)) (fun hsome => ?_)
 obtain ⟨b8, rfl⟩ := hsome
 refine jc_region ?_; refine jz ?_; refine jnt ?_; refine jc_block ?_; refine jc_loop (fun (t : Nat) => [(0, .slice (some ⟨bs, 0, none⟩) 8 cs), (2, .slice (some ⟨bk, 0, none⟩) 64 ck), (7, .slice (some ⟨b7, 0, none⟩) 64 64), (8, .slice (some ⟨b8, 0, none⟩) 8 c8), (9, .int .i64 (t : Nat))]) (fun (t : Nat) => fun w' => t ≤ 64 ∧ Hp w [] [.row (some ⟨b8, 0, none⟩) (8) (c8) 166 1 (([(rnds (wds L 64) ⟨x0, x1, x2, x3, x4, x5, x6, x7⟩ t).a, (rnds (wds L 64) ⟨x0, x1, x2, x3, x4, x5, x6, x7⟩ t).b, (rnds (wds L 64) ⟨x0, x1, x2, x3, x4, x5, x6, x7⟩ t).c, (rnds (wds L 64) ⟨x0, x1, x2, x3, x4, x5, x6, x7⟩ t).d, (rnds (wds L 64) ⟨x0, x1, x2, x3, x4, x5, x6, x7⟩ t).e, (rnds (wds L 64) ⟨x0, x1, x2, x3, x4, x5, x6, x7⟩ t).f, (rnds (wds L 64) ⟨x0, x1, x2, x3, x4, x5, x6, x7⟩ t).g, (rnds (wds L 64) ⟨x0, x1, x2, x3, x4, x5, x6, x7⟩ t).h]).map (.int .u32)), .row (some ⟨b7, 0, none⟩) (64) (64) 166 1 ((wds L 64).map (.int .u32))] w') (fun (t : Nat) => 64 - t) 0 ?_ ?_ ?_
 ·exact ⟨rfl, rfl, rfl, rfl, rfl, trivial⟩
 ·exact fun _ h => ⟨by omega, h⟩
 ·intro t
  refine jc_and (fun ht => ?_); refine jc_seq ?_; refine jsr ?_; refine jz ?_; refine jy (y_lss rfl rfl) ?_; refine jl_prop (fun h20 => ?_) (fun h20 => ?_)
  ·first | (exfalso; omega) | (
    have hv := rnds_ok (wds L 64) hv0 t
    have he := hv.e
    unfold W32 at he
    refine jnt ?_; refine jc_true rfl ?_; refine jc_skip ?_; refine jq_then ?_; refine jc_seq ?_; refine jc_block ?_; refine jc_seq ?_; refine jc_draw (by kernel_rfl) (fun _ h => h.drew) ?_; refine juz ?_; refine juy (yis rfl rfl) ?_; (iterate 2 refine juz ?_); refine juy (yis rfl rfl) ?_; refine juz ?_; refine ju_call rfl (by decide) rfl (goes_func rfl) (fun w1 hw1 => pcall hw1 (r_any _ _ w1 (by omega) (by omega))) ?_; refine juz ?_; refine juy (yis rfl rfl) ?_; refine juz ?_; refine ju_call rfl (by decide) rfl (goes_func rfl) (fun w1 hw1 => pcall hw1 (r_any _ _ w1 (by omega) (by omega))) ?_; refine juy (y_xor rfl rfl) ?_; refine juz ?_; refine juy (yis rfl rfl) ?_; refine juz ?_; refine ju_call rfl (by decide) rfl (goes_func rfl) (fun w1 hw1 => pcall hw1 (r_any _ _ w1 (by omega) (by omega))) ?_; refine juy (y_xor rfl rfl) ?_; refine juy (y_add_u32 rfl rfl) ?_; refine juz ?_; refine juy (yis rfl rfl) ?_; (iterate 2 refine juz ?_); refine juy (yis rfl rfl) ?_; refine juz ?_; refine juy (y_and rfl rfl) ?_; refine juz ?_; refine juy (yis rfl rfl) ?_; refine juz ?_; refine juy (ysf rfl rfl) ?_; refine ju_as (congrArg _ (not_eq _ hv.e).symm) ?_; refine juz ?_; refine juy (yis rfl rfl) ?_; refine juz ?_; refine juy (y_and rfl rfl) ?_; refine juy (y_xor rfl rfl) ?_; refine juy (y_add_u32 rfl rfl) ?_; (iterate 2 refine juz ?_); refine juy (y_indexAddr_slice (off := t) rfl rfl (by omega) (by omega) (by omega)) ?_; refine juy (y_load_old rfl (by have := hK.at t (by rw [kTab_length]; omega); rw [Nat.zero_add] at this; exact this) (by simp)) ?_; refine juy (y_add_u32 rfl rfl) ?_; (iterate 2 refine juz ?_); refine juy (y_indexAddr_slice (off := t) rfl rfl (by omega) (by omega) (by omega)) ?_; refine juy (y_load_row rfl mem1 (map_get _ _ _ (by rw [wds_length]; omega))) ?_; refine juy (y_add_u32 rfl rfl) ?_; refine juz ?_; refine ju_nil ?_; refine jq_then ?_; refine jc_seq ?_; refine jc_draw (by kernel_rfl) (fun _ h => h.drew) ?_; refine juz ?_; refine juy (yis rfl rfl) ?_; refine juz ?_; refine ju_call rfl (by decide) rfl (goes_func rfl) (fun w1 hw1 => pcall hw1 (r_any _ _ w1 (by omega) (by omega))) ?_; refine juz ?_; refine juy (yis rfl rfl) ?_; refine juz ?_; refine ju_call rfl (by decide) rfl (goes_func rfl) (fun w1 hw1 => pcall hw1 (r_any _ _ w1 (by omega) (by omega))) ?_; refine juy (y_xor rfl rfl) ?_; refine juz ?_; refine juy (yis rfl rfl) ?_; refine juz ?_; refine ju_call rfl (by decide) rfl (goes_func rfl) (fun w1 hw1 => pcall hw1 (r_any _ _ w1 (by omega) (by omega))) ?_
    refine juy (y_xor rfl rfl) ?_; refine juz ?_; refine juy (yis rfl rfl) ?_; (iterate 2 refine juz ?_); refine juy (yis rfl rfl) ?_; refine juz ?_; refine juy (y_and rfl rfl) ?_; refine juz ?_; refine juy (yis rfl rfl) ?_; (iterate 2 refine juz ?_); refine juy (yis rfl rfl) ?_; refine juz ?_; refine juy (y_and rfl rfl) ?_; refine juy (y_xor rfl rfl) ?_; refine juz ?_; refine juy (yis rfl rfl) ?_; (iterate 2 refine juz ?_); refine juy (yis rfl rfl) ?_; refine juz ?_; refine juy (y_and rfl rfl) ?_; refine juy (y_xor rfl rfl) ?_; refine juy (y_add_u32 rfl rfl) ?_; refine juz ?_; refine ju_nil ?_; refine jq_then ?_; refine jc_seq ?_; refine jsr ?_; refine jz ?_; refine jnt ?_; refine jc_block ?_; refine jc_rounds 8 ?_; refine jr_succ ?_; refine jc_seq ?_; refine jsr ?_; refine jz ?_; refine jy (y_gtr rfl rfl) ?_; refine jl_prop (fun h107 => ?_) (fun h107 => ?_)
    ·skip
     refine jnt ?_; refine jc_true rfl ?_; refine jc_skip ?_; refine jq_then ?_; refine jc_seq ?_; refine jc_block ?_; refine jc_region ?_; (iterate 4 refine jz ?_); refine jy (ysf rfl rfl) ?_; refine jy (yis rfl rfl) ?_; refine jz ?_; refine jy (yis rfl rfl) ?_; refine jl_w rfl rfl (w_store_row_lit rfl rfl rfl rep0 (by repeat constructor)) ?_; refine jl_nil ?_; refine jq_block ?_; refine jq_then ?_; refine jc_region ?_; refine jz ?_; refine jy (ysf rfl rfl) ?_; refine jz ?_; refine jl_nil ?_; refine jq_again ?_; refine jr_succ ?_; refine jc_seq ?_; refine jsr ?_; refine jz ?_; refine jy (y_gtr rfl rfl) ?_; refine jl_prop (fun h107 => ?_) (fun h107 => ?_)
     ·skip
      refine jnt ?_; refine jc_true rfl ?_; refine jc_skip ?_; refine jq_then ?_; refine jc_seq ?_; refine jc_block ?_; refine jc_region ?_; (iterate 4 refine jz ?_); refine jy (ysf rfl rfl) ?_; refine jy (yis rfl rfl) ?_; refine jz ?_; refine jy (yis rfl rfl) ?_; refine jl_w rfl rfl (w_store_row_lit rfl rfl rfl rep0 (by repeat constructor)) ?_; refine jl_nil ?_; refine jq_block ?_; refine jq_then ?_; refine jc_region ?_; refine jz ?_; refine jy (ysf rfl rfl) ?_; refine jz ?_; refine jl_nil ?_; refine jq_again ?_; refine jr_succ ?_; refine jc_seq ?_; refine jsr ?_; refine jz ?_; refine jy (y_gtr rfl rfl) ?_; refine jl_prop (fun h107 => ?_) (fun h107 => ?_)
      ·skip
       refine jnt ?_; refine jc_true rfl ?_; refine jc_skip ?_; refine jq_then ?_; refine jc_seq ?_; refine jc_block ?_; refine jc_region ?_; (iterate 4 refine jz ?_); refine jy (ysf rfl rfl) ?_; refine jy (yis rfl rfl) ?_; refine jz ?_; refine jy (yis rfl rfl) ?_; refine jl_w rfl rfl (w_store_row_lit rfl rfl rfl rep0 (by repeat constructor)) ?_; refine jl_nil ?_; refine jq_block ?_; refine jq_then ?_; refine jc_region ?_; refine jz ?_; refine jy (ysf rfl rfl) ?_; refine jz ?_; refine jl_nil ?_; refine jq_again ?_; refine jr_succ ?_; refine jc_seq ?_; refine jsr ?_; refine jz ?_; refine jy (y_gtr rfl rfl) ?_; refine jl_prop (fun h107 => ?_) (fun h107 => ?_)
       ·skip
        refine jnt ?_; refine jc_true rfl ?_; refine jc_skip ?_; refine jq_then ?_; refine jc_seq ?_; refine jc_block ?_; refine jc_region ?_; (iterate 4 refine jz ?_); refine jy (ysf rfl rfl) ?_; refine jy (yis rfl rfl) ?_; refine jz ?_; refine jy (yis rfl rfl) ?_; refine jl_w rfl rfl (w_store_row_lit rfl rfl rfl rep0 (by repeat constructor)) ?_; refine jl_nil ?_; refine jq_block ?_; refine jq_then ?_; refine jc_region ?_; refine jz ?_; refine jy (ysf rfl rfl) ?_; refine jz ?_; refine jl_nil ?_; refine jq_again ?_; refine jr_succ ?_; refine jc_seq ?_; refine jsr ?_; refine jz ?_; refine jy (y_gtr rfl rfl) ?_; refine jl_prop (fun h107 => ?_) (fun h107 => ?_)
        ·skip
         refine jnt ?_; refine jc_true rfl ?_; refine jc_skip ?_; refine jq_then ?_; refine jc_seq ?_; refine jc_block ?_; refine jc_region ?_; (iterate 4 refine jz ?_); refine jy (ysf rfl rfl) ?_; refine jy (yis rfl rfl) ?_; refine jz ?_; refine jy (yis rfl rfl) ?_; refine jl_w rfl rfl (w_store_row_lit rfl rfl rfl rep0 (by repeat constructor)) ?_; refine jl_nil ?_; refine jq_block ?_; refine jq_then ?_; refine jc_region ?_; refine jz ?_; refine jy (ysf rfl rfl) ?_; refine jz ?_; refine jl_nil ?_; refine jq_again ?_; refine jr_succ ?_; refine jc_seq ?_; refine jsr ?_; refine jz ?_; refine jy (y_gtr rfl rfl) ?_; refine jl_prop (fun h107 => ?_) (fun h107 => ?_)
         ·skip
          refine jnt ?_; refine jc_true rfl ?_; refine jc_skip ?_; refine jq_then ?_; refine jc_seq ?_; refine jc_block ?_; refine jc_region ?_; (iterate 4 refine jz ?_); refine jy (ysf rfl rfl) ?_; refine jy (yis rfl rfl) ?_; refine jz ?_; refine jy (yis rfl rfl) ?_; refine jl_w rfl rfl (w_store_row_lit rfl rfl rfl rep0 (by repeat constructor)) ?_; refine jl_nil ?_; refine jq_block ?_; refine jq_then ?_; refine jc_region ?_; refine jz ?_; refine jy (ysf rfl rfl) ?_; refine jz ?_; refine jl_nil ?_; refine jq_again ?_; refine jr_succ ?_; refine jc_seq ?_; refine jsr ?_; refine jz ?_; refine jy (y_gtr rfl rfl) ?_; refine jl_prop (fun h107 => ?_) (fun h107 => ?_)
          ·skip
           refine jnt ?_; refine jc_true rfl ?_; refine jc_skip ?_; refine jq_then ?_; refine jc_seq ?_; refine jc_block ?_; refine jc_region ?_; (iterate 4 refine jz ?_); refine jy (ysf rfl rfl) ?_; refine jy (yis rfl rfl) ?_; refine jz ?_; refine jy (yis rfl rfl) ?_; refine jl_w rfl rfl (w_store_row_lit rfl rfl rfl rep0 (by repeat constructor)) ?_; refine jl_nil ?_; refine jq_block ?_; refine jq_then ?_; refine jc_region ?_; refine jz ?_; refine jy (ysf rfl rfl) ?_; refine jz ?_; refine jl_nil ?_; refine jq_again ?_; refine jr_succ ?_; refine jc_seq ?_; refine jsr ?_; refine jz ?_; refine jy (y_gtr rfl rfl) ?_; refine jl_prop (fun h107 => ?_) (fun h107 => ?_)
           ·exfalso; omega
           ·skip
            refine jnt ?_; refine jc_false rfl ?_; refine jc_exit ?_; (iterate 2 refine jq_then_exit ?_); refine jq_hit ?_; refine jq_then ?_; refine jsr ?_; (iterate 2 refine jz ?_); refine jy (yis rfl rfl) ?_; (iterate 2 refine jz ?_); refine jy (y_add_u32 rfl rfl) ?_; refine jy (yis rfl rfl) ?_; refine jl_w rfl rfl (w_store_row_lit rfl rfl rfl rep0 (by repeat constructor)) ?_; refine jnt ?_; refine jc_region ?_; (iterate 3 refine jz ?_); refine jy (y_add_u32 rfl rfl) ?_; refine jy (yis rfl rfl) ?_; refine jl_w rfl rfl (w_store_row_lit rfl rfl rfl rep0 (by repeat constructor)) ?_; refine jl_nil ?_; refine jq_block ?_; refine jq_then ?_; refine jc_region ?_; refine jz ?_; refine jy (yaf rfl rfl) ?_; refine jz ?_; refine jl_nil ?_; refine jq_round (i := t) (t + 1) ?_ ?_ ?_
            ·omega
            ·exact ⟨rfl, rfl, rfl, rfl, lk_int rfl (by omega), trivial⟩
            ·exact fun _ h => ⟨by omega, h⟩
          ·exfalso; omega
         ·exfalso; omega
        ·exfalso; omega
       ·exfalso; omega
      ·exfalso; omega
     ·exfalso; omega
    ·exfalso; omega
    )
  ·first | (exfalso; omega) | (
    refine jnt ?_; refine jc_false rfl ?_; refine jc_exit ?_; (iterate 2 refine jq_then_exit ?_); refine jq_hit ?_; refine jq_then ?_; refine jc_seq ?_; refine jsr ?_; refine jz ?_; refine jnt ?_; refine jc_block ?_; refine jc_rounds 9 ?_; refine jr_succ ?_; refine jc_seq ?_; refine jsr ?_; refine jz ?_; refine jy (y_lss rfl rfl) ?_; refine jl_prop (fun h131 => ?_) (fun h131 => ?_)
    ·skip
     refine jnt ?_; refine jc_true rfl ?_; refine jc_skip ?_; refine jq_then ?_; refine jc_seq ?_; refine jc_block ?_; refine jc_tail 12 (by kernel_rfl) (fun _ h => h.drew) ?_
     simp only [List.take_succ_cons, List.take_zero, List.drop_succ_cons, List.drop_zero]
     (iterate 4 refine jtz ?_); refine jty (yis rfl rfl) ?_; (iterate 3 refine jtz ?_); refine jty (yis rfl rfl) ?_; refine jty (y_load_old rfl (hS1 _ _ rfl) (by simp)) ?_; refine jty (y_add_u32 rfl rfl) ?_; refine jt_as (congrArg (fun z => Value.int .u32 (z % 4294967296)) (Int.add_comm _ _)) ?_; refine jty (yis rfl rfl) ?_; refine jt_nil ?_; refine jl_w rfl rfl (w_store_row_lit rfl rfl rfl rep0 (by repeat constructor)) ?_; refine jl_nil ?_; refine jq_block ?_; refine jq_then ?_; refine jc_region ?_; refine jz ?_; refine jy (yaf rfl rfl) ?_; refine jz ?_; refine jl_nil ?_; refine jq_again ?_; refine jr_succ ?_; refine jc_seq ?_; refine jsr ?_; refine jz ?_; refine jy (y_lss rfl rfl) ?_; refine jl_prop (fun h131 => ?_) (fun h131 => ?_)
     ·skip
      refine jnt ?_; refine jc_true rfl ?_; refine jc_skip ?_; refine jq_then ?_; refine jc_seq ?_; refine jc_block ?_; refine jc_tail 12 (by kernel_rfl) (fun _ h => h.drew) ?_
      simp only [List.take_succ_cons, List.take_zero, List.drop_succ_cons, List.drop_zero]
      (iterate 4 refine jtz ?_); refine jty (yis rfl rfl) ?_; (iterate 3 refine jtz ?_); refine jty (yis rfl rfl) ?_; refine jty (y_load_old rfl (hS1 _ _ rfl) (by simp)) ?_; refine jty (y_add_u32 rfl rfl) ?_; refine jt_as (congrArg (fun z => Value.int .u32 (z % 4294967296)) (Int.add_comm _ _)) ?_; refine jty (yis rfl rfl) ?_; refine jt_nil ?_; refine jl_w rfl rfl (w_store_row_lit rfl rfl rfl rep0 (by repeat constructor)) ?_; refine jl_nil ?_; refine jq_block ?_; refine jq_then ?_; refine jc_region ?_; refine jz ?_; refine jy (yaf rfl rfl) ?_; refine jz ?_; refine jl_nil ?_; refine jq_again ?_; refine jr_succ ?_; refine jc_seq ?_; refine jsr ?_; refine jz ?_; refine jy (y_lss rfl rfl) ?_; refine jl_prop (fun h131 => ?_) (fun h131 => ?_)
      ·skip
       refine jnt ?_; refine jc_true rfl ?_; refine jc_skip ?_; refine jq_then ?_; refine jc_seq ?_; refine jc_block ?_; refine jc_tail 12 (by kernel_rfl) (fun _ h => h.drew) ?_
       simp only [List.take_succ_cons, List.take_zero, List.drop_succ_cons, List.drop_zero]
       (iterate 4 refine jtz ?_); refine jty (yis rfl rfl) ?_; (iterate 3 refine jtz ?_); refine jty (yis rfl rfl) ?_; refine jty (y_load_old rfl (hS1 _ _ rfl) (by simp)) ?_; refine jty (y_add_u32 rfl rfl) ?_; refine jt_as (congrArg (fun z => Value.int .u32 (z % 4294967296)) (Int.add_comm _ _)) ?_; refine jty (yis rfl rfl) ?_; refine jt_nil ?_; refine jl_w rfl rfl (w_store_row_lit rfl rfl rfl rep0 (by repeat constructor)) ?_; refine jl_nil ?_; refine jq_block ?_; refine jq_then ?_; refine jc_region ?_; refine jz ?_; refine jy (yaf rfl rfl) ?_; refine jz ?_; refine jl_nil ?_; refine jq_again ?_; refine jr_succ ?_; refine jc_seq ?_; refine jsr ?_; refine jz ?_; refine jy (y_lss rfl rfl) ?_; refine jl_prop (fun h131 => ?_) (fun h131 => ?_)
       ·skip
        refine jnt ?_; refine jc_true rfl ?_; refine jc_skip ?_; refine jq_then ?_; refine jc_seq ?_; refine jc_block ?_; refine jc_tail 12 (by kernel_rfl) (fun _ h => h.drew) ?_
        simp only [List.take_succ_cons, List.take_zero, List.drop_succ_cons, List.drop_zero]
        (iterate 4 refine jtz ?_); refine jty (yis rfl rfl) ?_; (iterate 3 refine jtz ?_); refine jty (yis rfl rfl) ?_; refine jty (y_load_old rfl (hS1 _ _ rfl) (by simp)) ?_; refine jty (y_add_u32 rfl rfl) ?_; refine jt_as (congrArg (fun z => Value.int .u32 (z % 4294967296)) (Int.add_comm _ _)) ?_; refine jty (yis rfl rfl) ?_; refine jt_nil ?_; refine jl_w rfl rfl (w_store_row_lit rfl rfl rfl rep0 (by repeat constructor)) ?_; refine jl_nil ?_; refine jq_block ?_; refine jq_then ?_; refine jc_region ?_; refine jz ?_; refine jy (yaf rfl rfl) ?_; refine jz ?_; refine jl_nil ?_; refine jq_again ?_; refine jr_succ ?_; refine jc_seq ?_; refine jsr ?_; refine jz ?_; refine jy (y_lss rfl rfl) ?_; refine jl_prop (fun h131 => ?_) (fun h131 => ?_)
        ·skip
         refine jnt ?_; refine jc_true rfl ?_; refine jc_skip ?_; refine jq_then ?_; refine jc_seq ?_; refine jc_block ?_; refine jc_tail 12 (by kernel_rfl) (fun _ h => h.drew) ?_
         simp only [List.take_succ_cons, List.take_zero, List.drop_succ_cons, List.drop_zero]
         (iterate 4 refine jtz ?_); refine jty (yis rfl rfl) ?_; (iterate 3 refine jtz ?_); refine jty (yis rfl rfl) ?_; refine jty (y_load_old rfl (hS1 _ _ rfl) (by simp)) ?_; refine jty (y_add_u32 rfl rfl) ?_; refine jt_as (congrArg (fun z => Value.int .u32 (z % 4294967296)) (Int.add_comm _ _)) ?_; refine jty (yis rfl rfl) ?_; refine jt_nil ?_; refine jl_w rfl rfl (w_store_row_lit rfl rfl rfl rep0 (by repeat constructor)) ?_; refine jl_nil ?_; refine jq_block ?_; refine jq_then ?_; refine jc_region ?_; refine jz ?_; refine jy (yaf rfl rfl) ?_; refine jz ?_; refine jl_nil ?_; refine jq_again ?_; refine jr_succ ?_; refine jc_seq ?_; refine jsr ?_; refine jz ?_; refine jy (y_lss rfl rfl) ?_; refine jl_prop (fun h131 => ?_) (fun h131 => ?_)
         ·skip
          refine jnt ?_; refine jc_true rfl ?_; refine jc_skip ?_; refine jq_then ?_; refine jc_seq ?_; refine jc_block ?_; refine jc_tail 12 (by kernel_rfl) (fun _ h => h.drew) ?_
          simp only [List.take_succ_cons, List.take_zero, List.drop_succ_cons, List.drop_zero]
          (iterate 4 refine jtz ?_); refine jty (yis rfl rfl) ?_; (iterate 3 refine jtz ?_); refine jty (yis rfl rfl) ?_; refine jty (y_load_old rfl (hS1 _ _ rfl) (by simp)) ?_; refine jty (y_add_u32 rfl rfl) ?_; refine jt_as (congrArg (fun z => Value.int .u32 (z % 4294967296)) (Int.add_comm _ _)) ?_; refine jty (yis rfl rfl) ?_; refine jt_nil ?_; refine jl_w rfl rfl (w_store_row_lit rfl rfl rfl rep0 (by repeat constructor)) ?_; refine jl_nil ?_; refine jq_block ?_; refine jq_then ?_; refine jc_region ?_; refine jz ?_; refine jy (yaf rfl rfl) ?_; refine jz ?_; refine jl_nil ?_; refine jq_again ?_; refine jr_succ ?_; refine jc_seq ?_; refine jsr ?_; refine jz ?_; refine jy (y_lss rfl rfl) ?_; refine jl_prop (fun h131 => ?_) (fun h131 => ?_)
          ·skip
           refine jnt ?_; refine jc_true rfl ?_; refine jc_skip ?_; refine jq_then ?_; refine jc_seq ?_; refine jc_block ?_; refine jc_tail 12 (by kernel_rfl) (fun _ h => h.drew) ?_
           simp only [List.take_succ_cons, List.take_zero, List.drop_succ_cons, List.drop_zero]
           (iterate 4 refine jtz ?_); refine jty (yis rfl rfl) ?_; (iterate 3 refine jtz ?_); refine jty (yis rfl rfl) ?_; refine jty (y_load_old rfl (hS1 _ _ rfl) (by simp)) ?_; refine jty (y_add_u32 rfl rfl) ?_; refine jt_as (congrArg (fun z => Value.int .u32 (z % 4294967296)) (Int.add_comm _ _)) ?_; refine jty (yis rfl rfl) ?_; refine jt_nil ?_; refine jl_w rfl rfl (w_store_row_lit rfl rfl rfl rep0 (by repeat constructor)) ?_; refine jl_nil ?_; refine jq_block ?_; refine jq_then ?_; refine jc_region ?_; refine jz ?_; refine jy (yaf rfl rfl) ?_; refine jz ?_; refine jl_nil ?_; refine jq_again ?_; refine jr_succ ?_; refine jc_seq ?_; refine jsr ?_; refine jz ?_; refine jy (y_lss rfl rfl) ?_; refine jl_prop (fun h131 => ?_) (fun h131 => ?_)
           ·skip
            refine jnt ?_; refine jc_true rfl ?_; refine jc_skip ?_; refine jq_then ?_; refine jc_seq ?_; refine jc_block ?_; refine jc_tail 12 (by kernel_rfl) (fun _ h => h.drew) ?_
            simp only [List.take_succ_cons, List.take_zero, List.drop_succ_cons, List.drop_zero]
            (iterate 4 refine jtz ?_); refine jty (yis rfl rfl) ?_; (iterate 3 refine jtz ?_); refine jty (yis rfl rfl) ?_; refine jty (y_load_old rfl (hS1 _ _ rfl) (by simp)) ?_; refine jty (y_add_u32 rfl rfl) ?_; refine jt_as (congrArg (fun z => Value.int .u32 (z % 4294967296)) (Int.add_comm _ _)) ?_; refine jty (yis rfl rfl) ?_; refine jt_nil ?_; refine jl_w rfl rfl (w_store_row_lit rfl rfl rfl rep0 (by repeat constructor)) ?_; refine jl_nil ?_; refine jq_block ?_; refine jq_then ?_; refine jc_region ?_; refine jz ?_; refine jy (yaf rfl rfl) ?_; refine jz ?_; refine jl_nil ?_; refine jq_again ?_; refine jr_succ ?_; refine jc_seq ?_; refine jsr ?_; refine jz ?_; refine jy (y_lss rfl rfl) ?_; refine jl_prop (fun h131 => ?_) (fun h131 => ?_)
            ·exfalso; omega
            ·skip
             refine jnt ?_; refine jc_false rfl ?_; refine jc_exit ?_; (iterate 2 refine jq_then_exit ?_); refine jq_hit ?_; refine jq_then ?_; refine jsr ?_; (iterate 2 refine jz ?_); refine jnt ?_; refine jc_ret ?_; refine jq_ret1 rfl rfl ?_; exact fun w' hw => ⟨(b8, c8), rfl, ((hw.part (.cons del0 .nil)).cast (by have e : t = 64 := (by omega); subst e; rfl)).fresh⟩
           ·exfalso; omega
          ·exfalso; omega
         ·exfalso; omega
        ·exfalso; omega
       ·exfalso; omega
      ·exfalso; omega
     ·exfalso; omega
    ·exfalso; omega
    )

end Go.Proofs.YtghomncegjamfaaGreat