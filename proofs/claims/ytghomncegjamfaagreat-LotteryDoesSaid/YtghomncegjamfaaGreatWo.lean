/- The walks of package wots. Written by program (walk.py) out of a table of contracts and invariants. -/
import Derived.Test.YtghomncegjamfaaGreatMwots
import Derived.Test.YtghomncegjamfaaGreatJj
namespace Go.Proofs.YtghomncegjamfaaGreat
open Go.RowKit
set_option maxRecDepth 100000
set_option linter.unusedVariables false
set_option linter.unusedSimpArgs false
attribute [local irreducible] Yields Makes Writes
theorem map_getI (l : List Int) (i : Nat) (h : i < l.length) : (l.map (Value.int .i64))[i]? = some (.int .i64 (l.getD i 0)) := map_get _ l i h
theorem extract_size {s : ByteArray} {i j : Nat} (h : i ≤ j) (h2 : j ≤ s.size) : (s.extract i j).size = j - i := by simp; omega
theorem msg8_size (msg : ByteArray) : ((msgH msg).extract 0 8).size = 8 := by rw [extract_size (by decide) (by rw [msgH_size]; decide)]
theorem msg8_get (msg : ByteArray) (i : Nat) (h : i < 8) : (ints ((msgH msg).extract 0 8)).getD i 0 = hAt msg i := by
  unfold hAt
  simp only [ints_extract, List.drop_zero, List.getD_eq_getElem?_getD, List.getElem?_take]
  rw [if_pos h]
theorem bytesV_get8 (msg : ByteArray) (sp : List Value) (i : Nat) (h : i < 8) : (bytesV ((msgH msg).extract 0 8) ++ sp)[i]? = some (.int .u8 (hAt msg i)) := by
  rw [bytesV_get _ _ _ (by rw [msg8_size]; exact h), msg8_get msg i h]

theorem digits_any (msg : ByteArray) (w : World) (hs : msg.size ≤ 1000000) :
  Calls Tryz.prog 94 #[.string msg] w fun e w' => e = .returned (.agg ((digs msg).map (.int .i64)).toArray) ∧ Ch [] w w' := by
 refine calls_of (n := 56) (E := [(0, .string msg)]) (W := Hp w [] []) Tryz.func94 rfl rfl (Nat.le_of_ble_eq_true rfl) rfl (Hp.nil _ _) ?_; refine jsr ?_; refine jl_m rfl (by decide) rfl (m_alloc) (fun b2 => ?_); refine jnt ?_; refine jsr ?_; refine jl_m rfl (by decide) rfl (m_alloc) (fun b3 => ?_); refine jnt ?_; refine jsr ?_; refine jz ?_; refine jnt ?_; refine jc_seq ?_; refine jsr ?_; refine jz ?_; refine jl_m rfl (by decide) rfl (m_buildSlice (by decide) (Built.cell rfl rfl rfl (by repeat constructor) Built.nil)) (fun b8 => ?_); refine jpc (goes_func rfl) (fun w1 hw1 => tag_any strMessage (some ⟨b8, 0, none⟩) 1 [msg] w1 (by decide) (by simp) (all1 (hs)) (Strs.of_row (hw1.get mem0))) ?_; refine jy (y_substr_hi rfl rfl (by decide) (by rw [tagS_size]; decide)) ?_; refine jl_as (u := .string ((msgH msg).extract 0 8)) rfl ?_; refine jl_m3 rfl (by decide) rfl (m_bytes rfl) (fun b11 c11 sp11 => ?_); refine jy (y_len_slice rfl) ?_; refine jl_as (u := .int .i64 8) (by rw [msg8_size]; rfl) ?_; refine jz ?_; refine jnt ?_; refine jc_block ?_; refine jc_loop (fun (i : Nat) => [(2, .pointer (some ⟨b2, 0, none⟩)), (3, .pointer (some ⟨b3, 0, none⟩)), (4, .int .i64 (lackL msg i)), (11, .slice (some ⟨b11, 0, none⟩) ((msgH msg).extract 0 8).size c11), (12, .int .i64 8), (13, .int .i64 (i : Nat))]) (fun (i : Nat) => fun w' => i ≤ 8 ∧ Hp w [] [.cells b11 (bytesV ((msgH msg).extract 0 8) ++ sp11), .cells b3 ((dpad msg i).map (.int .i64)), .cells b2 (List.replicate 18 (.int .i64 0))] w') (fun (i : Nat) => 8 - i) 0 ?_ ?_ ?_
 ·exact ⟨rfl, rfl, rfl, rfl, rfl, rfl, trivial⟩
 ·exact fun _ h => ⟨by omega, h.part (.cons del0 (.cons del1 (.cons del1 .nil)))⟩
 ·intro i
  refine jc_and (fun hi => ?_)
  have hl := lackL_range msg i
  have hr := hAt_range msg i
  have h8 := msg8_size msg
  refine jsr ?_; refine jy (y_lss rfl rfl) ?_; refine jl_prop (fun h14 => ?_) (fun h14 => ?_)
  ·first | (exfalso; omega) | (
    refine jnt ?_; refine jc_seq ?_; refine jc_true rfl ?_; refine jc_skip ?_; refine jq_then ?_; refine jc_seq ?_; refine jc_block ?_; refine jsr ?_; refine jz ?_; refine jy (y_indexAddr_slice (off := i) rfl rfl (by omega) (by omega) (by omega)) ?_; refine jy (y_load rfl mem0 (bytesV_get8 _ _ _ (by omega))) ?_; (iterate 2 refine jz ?_); refine jnt ?_; refine jsr ?_; (iterate 2 refine jz ?_); refine jy (yaf rfl rfl) ?_; (iterate 2 refine jz ?_); (iterate 2 refine jy (yaf rfl rfl) ?_); refine jz ?_
    first | refine jy (y_conv_fits rfl (by simp only [fits]; omega)) ?_
    refine jy (y_quo rfl rfl (by omega) (by omega) (by simp only [fits]; omega)) ?_; refine jz ?_
    first | refine jy (y_conv_fits rfl (by simp only [fits]; omega)) ?_
    refine jy (y_rem rfl rfl (by omega) (by omega)) ?_; refine jy (y_indexAddr_arr (off := 2 * i) rfl rfl (by omega) (by omega) (by omega)) ?_; refine jl_w rfl rfl (w_store rfl rfl rfl (by simp only [List.length_set, List.length_map, dpad_length _ _ (show i ≤ 8 by omega)]; omega) rep1) ?_; refine jy (y_indexAddr_arr (off := 2 * i + 1) rfl rfl (by omega) (by omega) (by omega)) ?_; refine jl_w rfl rfl (w_store rfl rfl rfl (by simp only [List.length_set, List.length_map, dpad_length _ _ (show i ≤ 8 by omega)]; omega) rep1) ?_; refine jnt ?_; refine jc_world (fun _ h => h.cast (H' := [.cells b11 (bytesV ((msgH msg).extract 0 8) ++ sp11), .cells b3 ((dpad msg (i + 1)).map (.int .i64)), .cells b2 (List.replicate 18 (.int .i64 0))]) (by rw [map_set, map_set, dpad_set _ _ (by omega)])) ?_; refine jc_draw (by kernel_rfl) (fun _ h => h.drew) ?_; (iterate 3 refine juz ?_); refine juy (yaf rfl rfl) ?_; refine juy (y_indexAddr_arr (off := 2 * i) rfl rfl (by omega) (by omega) (by omega)) ?_; refine juy (y_load rfl mem1 (map_get _ _ _ (by rw [dpad_length _ _ (by omega)]; omega))) ?_; refine ju_as (congrArg _ (dpad_at msg i (by omega)).1) ?_; refine juy (ysf rfl rfl) ?_; (iterate 2 refine juz ?_); (iterate 2 refine juy (yaf rfl rfl) ?_); refine juy (y_indexAddr_arr (off := 2 * i + 1) rfl rfl (by omega) (by omega) (by omega)) ?_; refine juy (y_load rfl mem1 (map_get _ _ _ (by rw [dpad_length _ _ (by omega)]; omega))) ?_; refine ju_as (congrArg _ (dpad_at msg i (by omega)).2) ?_; refine juy (ysf rfl rfl) ?_; refine juy (yaf rfl rfl) ?_; refine ju_as (u := .int .i64 (lackL msg (i + 1))) (by simp only [lackL]) ?_; refine juz ?_; refine ju_nil ?_; refine jq_block ?_; refine jq_then ?_; refine jc_region ?_; refine jy (yaf rfl rfl) ?_; refine jz ?_; refine jl_nil ?_; refine jq_round (i := i) (i + 1) ?_ ?_ ?_
    ·omega
    ·exact ⟨rfl, rfl, rfl, rfl, rfl, lk_int rfl (by omega), trivial⟩
    ·exact fun _ h => ⟨by omega, h⟩
    )
  ·first | (exfalso; omega) | (
    refine jnt ?_; refine jc_seq ?_; refine jc_false rfl ?_; refine jc_exit ?_; (iterate 2 refine jq_then_exit ?_); refine jq_hit ?_; refine jq_then ?_; refine jc_seq ?_
    have hl9 := lackL_range msg 8
    have hi8 : i = 8 := by omega
    subst hi8
    refine jc_region ?_; refine jz ?_; refine jy (y_quo rfl rfl (by omega) (by omega) (by simp only [fits]; omega)) ?_; refine jz ?_; refine jy (y_rem rfl rfl (by omega) (by omega)) ?_; refine jy (y_indexAddr_arr (off := 16) rfl rfl (by omega) (by omega) (by omega)) ?_; refine jl_w rfl rfl (w_store rfl rfl rfl (by simp only [List.length_set, List.length_map, dpad_length _ _ (show 8 ≤ 8 by omega)]; omega) rep1) ?_; refine jy (y_indexAddr_arr (off := 17) rfl rfl (by omega) (by omega) (by omega)) ?_; refine jl_w rfl rfl (w_store rfl rfl rfl (by simp only [List.length_set, List.length_map, dpad_length _ _ (show 8 ≤ 8 by omega)]; omega) rep1) ?_; refine jnt ?_; refine jc_seq ?_; refine jc_world (fun _ h => (h.part (H := _) (F := [.cells b3 ((((dpad msg 8).map (.int .i64)).set 16 (.int .i64 (lackL msg 8 / 16))).set 17 (.int .i64 (lackL msg 8 % 16))), .cells b2 (List.replicate 18 (.int .i64 0))]) (.cons del1 (.cons del1 .nil))).cast (H' := [.cells b3 ((digs msg).map (.int .i64)), .cells b2 (List.replicate 18 (.int .i64 0))]) (by rw [map_set, map_set, dpad_end])) ?_; refine jc_region ?_; refine jy (y_loadAgg rfl mem0 (TakeAt.whole (by simp [digs_length]))) ?_; refine jl_w rfl rfl (w_storeAgg rfl rfl (by simp [digs_length]) (ones_int _ _) rep1 (PutAt.whole (by simp [digs_length]))) ?_; refine jnt ?_; refine jc_ret ?_; refine jq_res (.inl rfl) rfl (.cell rfl (ld_agg mem1 (TakeAt.whole (by simp [digs_length]))) .nil) ?_; exact fun w' hw => ⟨rfl, hw.ch⟩
    )

theorem wstep_any (p : Int) (x : ByteArray) (n : Int) (w : World) :
  Calls Tryz.prog 91 #[.int .i64 p, .string x, .int .i64 n] w fun e w' => e = .returned (.string (stepF p x n)) ∧ Ch [] w w' := by
 refine calls_of (n := 38) (E := [(0, .int .i64 p), (1, .string x), (2, .int .i64 n)]) (W := Hp w [] []) Tryz.func91 rfl rfl (Nat.le_of_ble_eq_true rfl) rfl (Hp.nil _ _) ?_; refine jsr ?_; refine jz ?_; refine jnt ?_; refine jc_seq ?_; refine jsr ?_; refine jz ?_; refine jy (y_lss rfl rfl) ?_; refine jl_prop (fun h8 => ?_) (fun h8 => ?_)
 ·first | (exfalso; omega) | (refine jz ?_; (iterate 2 refine jsk ?_); refine jy (y_pick_true rfl rfl) ?_; refine jz ?_; (iterate 3 refine jsk ?_); refine jy (y_pick_true rfl rfl) ?_; refine jz ?_; (iterate 2 refine jsk ?_); refine jy (y_pick_true rfl rfl) ?_; refine jz ?_; (iterate 2 refine jsk ?_); refine jy (y_pick_true rfl rfl) ?_; refine jnt ?_; refine jc_true rfl ?_; refine jsr ?_; refine jz ?_; refine jnt ?_; refine jc_ret ?_; refine jq_then_ret ?_; refine jq_ret1 rfl rfl ?_; exact fun _ hw => ⟨congrArg (fun z => Ending.returned (Value.string z)) (by first | (rw [stepF_neg (by omega)]) | (rw [stepF_pos (by omega)]; congr 1; omega)), hw.ch⟩)
 ·first | (exfalso; omega) | (
   (iterate 2 refine jz ?_); refine jy (y_geq rfl rfl) ?_; refine jl_prop (fun h11 => ?_) (fun h11 => ?_)
   ·first | (exfalso; omega) | (refine jy (y_pick_false rfl rfl) ?_; refine jz ?_; (iterate 3 refine jsk ?_); refine jy (y_pick_true rfl rfl) ?_; refine jz ?_; (iterate 2 refine jsk ?_); refine jy (y_pick_true rfl rfl) ?_; refine jz ?_; (iterate 2 refine jsk ?_); refine jy (y_pick_true rfl rfl) ?_; refine jnt ?_; refine jc_true rfl ?_; refine jsr ?_; refine jz ?_; refine jnt ?_; refine jc_ret ?_; refine jq_then_ret ?_; refine jq_ret1 rfl rfl ?_; exact fun _ hw => ⟨congrArg (fun z => Ending.returned (Value.string z)) (by first | (rw [stepF_neg (by omega)]) | (rw [stepF_pos (by omega)]; congr 1; omega)), hw.ch⟩)
   ·first | (exfalso; omega) | (
     refine jy (y_pick_false rfl rfl) ?_; (iterate 2 refine jz ?_); refine jy (y_len_str rfl) ?_; refine jy (y_neq rfl rfl) ?_; refine jl_prop (fun h16 => ?_) (fun h16 => ?_)
     ·first | (exfalso; omega) | (refine jy (y_pick_false rfl rfl) ?_; refine jz ?_; (iterate 2 refine jsk ?_); refine jy (y_pick_true rfl rfl) ?_; refine jz ?_; (iterate 2 refine jsk ?_); refine jy (y_pick_true rfl rfl) ?_; refine jnt ?_; refine jc_true rfl ?_; refine jsr ?_; refine jz ?_; refine jnt ?_; refine jc_ret ?_; refine jq_then_ret ?_; refine jq_ret1 rfl rfl ?_; exact fun _ hw => ⟨congrArg (fun z => Ending.returned (Value.string z)) (by first | (rw [stepF_neg (by omega)]) | (rw [stepF_pos (by omega)]; congr 1; omega)), hw.ch⟩)
     ·first | (exfalso; omega) | (
       refine jy (y_pick_false rfl rfl) ?_; (iterate 2 refine jz ?_); refine jy (y_lss rfl rfl) ?_; refine jl_prop (fun h20 => ?_) (fun h20 => ?_)
       ·first | (exfalso; omega) | (refine jy (y_pick_false rfl rfl) ?_; refine jz ?_; (iterate 2 refine jsk ?_); refine jy (y_pick_true rfl rfl) ?_; refine jnt ?_; refine jc_true rfl ?_; refine jsr ?_; refine jz ?_; refine jnt ?_; refine jc_ret ?_; refine jq_then_ret ?_; refine jq_ret1 rfl rfl ?_; exact fun _ hw => ⟨congrArg (fun z => Ending.returned (Value.string z)) (by first | (rw [stepF_neg (by omega)]) | (rw [stepF_pos (by omega)]; congr 1; omega)), hw.ch⟩)
       ·first | (exfalso; omega) | (
         refine jy (y_pick_false rfl rfl) ?_; (iterate 2 refine jz ?_); refine jy (y_gtr rfl rfl) ?_; refine jl_prop (fun h24 => ?_) (fun h24 => ?_)
         ·first | (exfalso; omega) | (refine jy (y_pick_false rfl rfl) ?_; refine jnt ?_; refine jc_true rfl ?_; refine jsr ?_; refine jz ?_; refine jnt ?_; refine jc_ret ?_; refine jq_then_ret ?_; refine jq_ret1 rfl rfl ?_; exact fun _ hw => ⟨congrArg (fun z => Ending.returned (Value.string z)) (by first | (rw [stepF_neg (by omega)]) | (rw [stepF_pos (by omega)]; congr 1; omega)), hw.ch⟩)
         ·first | (exfalso; omega) | (
           refine jy (y_pick_false rfl rfl) ?_; refine jnt ?_; refine jc_false rfl ?_; refine jc_skip ?_; refine jq_then ?_; iterate 2 refine jc_seq ?_
           have hx16 : x.size = 16 := by omega
           refine jc_region ?_; (iterate 2 refine jz ?_); refine jnt ?_; refine jc_block ?_; refine jc_loop (fun (i : Nat) => [(0, .int .i64 p), (1, .string (stepN p x i)), (26, .int .i64 n), (27, .int .i64 (i : Nat))]) (fun (i : Nat) => fun w' => i ≤ n.toNat ∧ Hp w [] [] w') (fun (i : Nat) => n.toNat - i) 0 ?_ ?_ ?_
           ·exact ⟨rfl, rfl, rfl, rfl, trivial⟩
           ·exact fun _ h => ⟨by omega, h⟩
           ·intro i
            refine jc_and (fun hi => ?_); refine jsr ?_; refine jy (y_lss rfl rfl) ?_; refine jl_prop (fun h28 => ?_) (fun h28 => ?_)
            ·first | (exfalso; omega) | (
              refine jnt ?_; refine jc_seq ?_; refine jc_true rfl ?_; refine jc_skip ?_; refine jq_then ?_; refine jc_seq ?_; refine jc_block ?_; refine jc_region ?_; refine jz ?_; refine jy (y_conv_u8 rfl) ?_; refine jl_m rfl (by decide) rfl (m_buildSlice (by decide) (Built.cell rfl rfl rfl (by repeat constructor) Built.nil)) (fun b31 => ?_); refine jy (y_str_own rfl (by first | exact mem0 | exact mem1 | exact mem2 | exact mem3 | exact mem4 | exact mem5) (by repeat constructor)) ?_; refine jl_as (u := .string (oneB p)) rfl ?_; refine jz ?_; refine jl_m rfl (by decide) rfl (m_buildSlice (by decide) (Built.cell rfl rfl rfl (by repeat constructor) (Built.cell rfl rfl rfl (by repeat constructor) Built.nil))) (fun b34 => ?_); refine jpc (goes_func rfl) (fun w1 hw1 => tag_any strStep (some ⟨b34, 0, none⟩) 2 [oneB p, stepN p x i] w1 (by decide) (by simp) (all2 (by rw [oneB_size]; decide) (by rw [stepN_size p x hx16]; decide)) (Strs.of_row (hw1.get mem0))) ?_; refine jz ?_; refine jl_nil ?_; refine jq_block ?_; refine jq_then ?_; refine jc_region ?_; refine jy (yaf rfl rfl) ?_; refine jz ?_; refine jl_nil ?_; refine jq_round (i := i) (i + 1) ?_ ?_ ?_
              ·omega
              ·exact ⟨rfl, rfl, rfl, lk_int rfl (by omega), trivial⟩
              ·exact fun _ h => ⟨by omega, h.part .nil⟩
              )
            ·first | (exfalso; omega) | (refine jnt ?_; refine jc_seq ?_; refine jc_false rfl ?_; refine jc_exit ?_; (iterate 2 refine jq_then_exit ?_); refine jq_hit ?_; refine jq_then ?_; refine jsr ?_; (iterate 2 refine jz ?_); refine jnt ?_; refine jc_ret ?_; refine jq_ret1 rfl rfl ?_; exact fun _ hw => ⟨congrArg (fun z => Ending.returned (Value.string z)) (by first | (rw [stepF_neg (by omega)]) | (rw [stepF_pos (by omega)]; congr 1; omega)), hw.ch⟩)
           )
         )
       )
     )
   )

theorem secrets_any (s : ByteArray) (w : World) :
  Calls Tryz.prog 90 #[.string s] w fun e w' => ∃ b, e = .returned (.func (.func 113) #[] #[.pointer (some ⟨b, 0, none⟩)]) ∧ Fresh w w' (.cells b [.string s]) := by
 refine calls_of (n := 4) (E := [(0, .string s)]) (W := Hp w [] []) Tryz.func90 rfl rfl (Nat.le_of_ble_eq_true rfl) rfl (Hp.nil _ _) ?_; refine jsr ?_; refine jl_m rfl (by decide) rfl (m_box rfl rfl) (fun b1 => ?_); refine jz ?_; refine jnt ?_; refine jsr ?_; refine jy (y_makeFunc rfl rfl) ?_; refine jz ?_; refine jnt ?_; refine jc_ret ?_; refine jq_ret1 rfl rfl ?_; exact fun w' hw => ⟨b1, rfl, hw.fresh⟩

theorem parts_any (s : ByteArray) (w : World) :
  Calls Tryz.prog 123 #[.string s] w fun e w' => ∃ b, e = .returned (.func (.func 134) #[] #[.pointer (some ⟨b, 0, none⟩)]) ∧ Fresh w w' (.cells b [.string s]) := by
 refine calls_of (n := 4) (E := [(0, .string s)]) (W := Hp w [] []) Tryz.func123 rfl rfl (Nat.le_of_ble_eq_true rfl) rfl (Hp.nil _ _) ?_; refine jsr ?_; refine jl_m rfl (by decide) rfl (m_box rfl rfl) (fun b1 => ?_); refine jz ?_; refine jnt ?_; refine jsr ?_; refine jy (y_makeFunc rfl rfl) ?_; refine jz ?_; refine jnt ?_; refine jc_ret ?_; refine jq_ret1 rfl rfl ?_; exact fun w' hw => ⟨b1, rfl, hw.fresh⟩

theorem secrets_it (b l : Nat) (s : ByteArray) (J : Nat → World → Prop) (w : World) (hs : s.size ≤ 1000000) (h0 : J 0 w) (hc : ∀ k w, J k w → w.cell? ⟨b, 0, none⟩ = some (.string s)) (hJ : ∀ k w w', J k w → Ch [] w w' → J k w') (hY : ∀ k w, k < 18 → J k w → YieldAt Fence.wide 0 Tryz.prog l [.int .i64 (k : Nat), .string (secS s k)].toArray w fun e w' => e = .returned (.bool true) ∧ J (k + 1) w') :
  Calls Tryz.prog 113 #[.func (.yield l) #[] #[], .pointer (some ⟨b, 0, none⟩)] w fun e w' => e = .returned (.tuple #[]) ∧ J 18 w' := by
 refine calls_of (n := 19) (E := [(0, .func (.yield l) #[] #[]), (1, .pointer (some ⟨b, 0, none⟩))]) (W := J 0) Tryz.func113 rfl rfl (Nat.le_of_ble_eq_true rfl) rfl h0 ?_; refine jsr ?_; refine jz ?_; refine jnt ?_; refine jc_block ?_; refine jc_loop (fun (i : Nat) => [(0, .func (.yield l) #[] #[]), (1, .pointer (some ⟨b, 0, none⟩)), (4, .int .i64 (i : Nat))]) (fun (i : Nat) => fun w' => i ≤ 18 ∧ J i w') (fun (i : Nat) => 18 - i) 0 ?_ ?_ ?_
 ·exact ⟨rfl, rfl, rfl, trivial⟩
 ·exact fun _ h => ⟨by omega, h⟩
 ·intro i
  refine jc_and (fun hi => ?_); refine jsr ?_; refine jy (y_lss rfl rfl) ?_; refine jl_prop (fun h5 => ?_) (fun h5 => ?_)
  ·first | (exfalso; omega) | (
    refine jnt ?_; refine jc_seq ?_; refine jc_true rfl ?_; refine jc_skip ?_; refine jq_then ?_; refine jc_seq ?_; refine jc_block ?_; refine jsr ?_; (iterate 2 refine jz ?_); refine jnt ?_; refine jc_seq ?_; refine jc_rebase (fun w0 hJ0 => ?_)
    have hcell := hc _ _ hJ0
    refine jc_split 9 rfl (by intro _ _ h; first | exact h | cases h.1) ?_
    simp only [List.take_succ_cons, List.take_zero, List.drop_succ_cons, List.drop_zero]
    (iterate 2 refine jz ?_); refine jy (y_load_old rfl hcell (by simp)) ?_; refine jz ?_; refine jy (y_conv_u8 rfl) ?_; refine jl_m rfl (by decide) rfl (m_buildSlice (by decide) (Built.cell rfl rfl rfl (by repeat constructor) Built.nil)) (fun b12 => ?_); refine jy (y_str_own rfl (by first | exact mem0 | exact mem1 | exact mem2 | exact mem3 | exact mem4 | exact mem5) (by repeat constructor)) ?_; refine jl_as (u := .string (oneB i)) rfl ?_; refine jl_m rfl (by decide) rfl (m_buildSlice (by decide) (Built.cell rfl rfl rfl (by repeat constructor) (Built.cell rfl rfl rfl (by repeat constructor) Built.nil))) (fun b14 => ?_); refine jpc (goes_func rfl) (fun w1 hw1 => tag_any strSecret (some ⟨b14, 0, none⟩) 2 [s, oneB i] w1 (by decide) (by simp) (all2 (hs) (by rw [oneB_size]; decide)) (Strs.of_row (hw1.get mem0))) ?_; refine jl_nil ?_; refine jq_yield (v := fun (_ : Unit) => .bool true) (W' := fun _ => J (i + 1)) rfl (by decide) rfl rfl (by intro _ _ h; first | exact h | cases h.1) rfl rfl (fun w1 hw1 => by obtain ⟨fn, tm, asg, bd, hy, hr⟩ := hY i w1 (by omega) (hJ _ _ _ hJ0 hw1.ch); exact ⟨fn, tm, asg, bd, hy, hr.mono fun e w' hh => ⟨(), hh⟩⟩) (fun _ => ?_); refine jz ?_; refine jnt ?_; refine jc_false rfl ?_; refine jc_skip ?_; refine jq_block ?_; refine jq_then ?_; refine jc_region ?_; refine jy (yaf rfl rfl) ?_; refine jz ?_; refine jl_nil ?_; refine jq_round (i := i) (i + 1) ?_ ?_ ?_
    ·omega
    ·exact ⟨rfl, rfl, lk_int rfl (by omega), trivial⟩
    ·exact fun _ h => ⟨by omega, h⟩
    )
  ·first | (exfalso; omega) | (refine jnt ?_; refine jc_seq ?_; refine jc_false rfl ?_; refine jc_exit ?_; (iterate 2 refine jq_then_exit ?_); refine jq_hit ?_; refine jq_end0 rfl ?_; exact fun w' hw => ⟨rfl, by have e : i = 18 := (by omega); subst e; exact hw⟩)

theorem parts_it (b l : Nat) (s : ByteArray) (J : Nat → World → Prop) (w : World) (hs : s.size = 288) (h0 : J 0 w) (hc : ∀ k w, J k w → w.cell? ⟨b, 0, none⟩ = some (.string s)) (hJ : ∀ k w w', J k w → Ch [] w w' → J k w') (hY : ∀ k w, k < 18 → J k w → YieldAt Fence.wide 0 Tryz.prog l [.int .i64 (k : Nat), .string (partAt s k)].toArray w fun e w' => e = .returned (.bool true) ∧ J (k + 1) w') :
  Calls Tryz.prog 134 #[.func (.yield l) #[] #[], .pointer (some ⟨b, 0, none⟩)] w fun e w' => e = .returned (.tuple #[]) ∧ J 18 w' := by
 refine calls_of (n := 19) (E := [(0, .func (.yield l) #[] #[]), (1, .pointer (some ⟨b, 0, none⟩))]) (W := J 0) Tryz.func134 rfl rfl (Nat.le_of_ble_eq_true rfl) rfl h0 ?_; refine jsr ?_; refine jz ?_; refine jnt ?_; refine jc_block ?_; refine jc_loop (fun (i : Nat) => [(0, .func (.yield l) #[] #[]), (1, .pointer (some ⟨b, 0, none⟩)), (4, .int .i64 (i : Nat))]) (fun (i : Nat) => fun w' => i ≤ 18 ∧ J i w') (fun (i : Nat) => 18 - i) 0 ?_ ?_ ?_
 ·exact ⟨rfl, rfl, rfl, trivial⟩
 ·exact fun _ h => ⟨by omega, h⟩
 ·intro i
  refine jc_and (fun hi => ?_); refine jsr ?_; refine jy (y_lss rfl rfl) ?_; refine jl_prop (fun h5 => ?_) (fun h5 => ?_)
  ·first | (exfalso; omega) | (
    refine jnt ?_; refine jc_seq ?_; refine jc_true rfl ?_; refine jc_skip ?_; refine jq_then ?_; refine jc_seq ?_; refine jc_block ?_; refine jsr ?_; (iterate 2 refine jz ?_); refine jnt ?_; refine jc_seq ?_; refine jc_rebase (fun w0 hJ0 => ?_)
    have hcell := hc _ _ hJ0
    refine jc_split 9 rfl (by intro _ _ h; first | exact h | cases h.1) ?_
    simp only [List.take_succ_cons, List.take_zero, List.drop_succ_cons, List.drop_zero]
    (iterate 2 refine jz ?_); refine jy (y_load_old rfl hcell (by simp)) ?_; refine jz ?_; refine jy (y_mul_fits rfl rfl (by simp only [fits]; omega)) ?_; refine jz ?_; refine jy (yaf rfl rfl) ?_; refine jy (y_mul_fits rfl rfl (by simp only [fits]; omega)) ?_; refine jy (y_substr rfl rfl rfl (by omega) (by omega) (by omega)) ?_; refine jl_as (u := .string (partAt s i)) (congrArg Value.string (by unfold partAt; congr 1 <;> omega)) ?_; refine jl_nil ?_; refine jq_yield (v := fun (_ : Unit) => .bool true) (W' := fun _ => J (i + 1)) rfl (by decide) rfl rfl (by intro _ _ h; first | exact h | cases h.1) rfl rfl (fun w1 hw1 => by obtain ⟨fn, tm, asg, bd, hy, hr⟩ := hY i w1 (by omega) (hJ _ _ _ hJ0 hw1.ch); exact ⟨fn, tm, asg, bd, hy, hr.mono fun e w' hh => ⟨(), hh⟩⟩) (fun _ => ?_); refine jz ?_; refine jnt ?_; refine jc_false rfl ?_; refine jc_skip ?_; refine jq_block ?_; refine jq_then ?_; refine jc_region ?_; refine jy (yaf rfl rfl) ?_; refine jz ?_; refine jl_nil ?_; refine jq_round (i := i) (i + 1) ?_ ?_ ?_
    ·omega
    ·exact ⟨rfl, rfl, lk_int rfl (by omega), trivial⟩
    ·exact fun _ h => ⟨by omega, h⟩
    )
  ·first | (exfalso; omega) | (refine jnt ?_; refine jc_seq ?_; refine jc_false rfl ?_; refine jc_exit ?_; (iterate 2 refine jq_then_exit ?_); refine jq_hit ?_; refine jq_end0 rfl ?_; exact fun w' hw => ⟨rfl, by have e : i = 18 := (by omega); subst e; exact hw⟩)

theorem public_any (seed : ByteArray) (w : World) (hs : seed.size ≤ 1000000) :
  Calls Tryz.prog 63 #[.string seed] w fun e w' => e = .returned (.string (pubS seed)) ∧ Ch [] w w' := by
 refine calls_of_m (n := 18) (E := [(0, .string seed)]) (W := Hp w [] []) Tryz.func63 rfl rfl (Nat.le_of_ble_eq_true rfl) rfl (Hp.nil _ _) ?_; refine jsr ?_; refine jz ?_; refine jnt ?_; refine jsr ?_; refine jl_m rfl (by decide) rfl (m_alloc) (fun b3 => ?_); refine jst ?_; refine jnt ?_; refine jc_seq ?_; refine jsr ?_; refine jz ?_; refine jl_fcall rfl (by decide) rfl (goes_func rfl) (fun w1 hw1 => secrets_any _ w1) (fun bs => ?_); refine jnt ?_; refine jc_block ?_; refine jc_range (w0 := w) (S := []) (gf := 113) (lb := [.pointer (some ⟨bs, 0, none⟩)]) 18 (fun k => [.int .i64 (k : Nat), .string (secS seed k)]) (fun k => [.cells b3 [.string (pubAll seed k)], .cells bs [.string seed]]) (fun k => [(3, .pointer (some ⟨b3, 0, none⟩)), (4, .int .i64 (k : Nat)), (5, .string (secS seed k))]) rfl (fun _ => rfl) (by decide) ?_ ?_ ?_ ?_ ?_
 ·exact fun _ h => h.perm (List.Perm.swap _ _ _)
 ·intro l D rec w1 hw1 hY
  exact (secrets_it bs l _ (fun k w' => RJ w [] [.cells b3 [.string (pubAll seed k)], .cells bs [.string seed]] l D rec w') w1 (by omega) hw1 (fun k w' h => (h.get (A := .cells bs [.string seed]) mem3 : Cells _ _ _).cell 0) (fun k w' w'' h c => Hp.pure h c) hY).mono fun e w' ⟨he, hh⟩ => ⟨⟨_, he⟩, hh⟩
 ·intro l k G hk
  have hsz := pubAll_size seed k
  have hst := stepF_small (k : Int) (secS seed k) 15
  refine kc_weaken (F := [(8, .int .i64 (k : Nat)), (9, .string (secS seed k)), (3, .pointer (some ⟨b3, 0, none⟩))]) ⟨rfl, rfl, rfl, trivial⟩ ?_; refine kc_world (W' := Hp w [] (.cells b3 [.string (pubAll seed k)] :: .cells bs [.string seed] :: G)) (fun _ h => h) ?_; refine kc_seq ?_; refine kc_region rfl (by intro _ _ h; first | exact h | cases h.1) ?_; refine jz ?_; refine jl_nil ?_; refine kq_then ?_; refine kc_region rfl (by intro _ _ h; first | exact h | cases h.1) ?_; refine jz ?_; refine jl_nil ?_; refine kq_assigned ?_ ?_
  ·exact ⟨rfl, rfl, rfl, trivial⟩
  ·exact fun _ h => h
 ·intro l k G hk
  have hsz := pubAll_size seed k
  have hst := stepF_small (k : Int) (secS seed k) 15
  refine kc_weaken (F := [(3, .pointer (some ⟨b3, 0, none⟩)), (4, .int .i64 (k : Nat)), (5, .string (secS seed k))]) ⟨rfl, rfl, rfl, trivial⟩ ?_; refine kc_world (W' := Hp w [] (.cells b3 [.string (pubAll seed k)] :: .cells bs [.string seed] :: G)) (fun _ h => h) ?_; refine kc_block ?_; refine kc_tail 5 (by kernel_rfl) (fun _ h => h.drew) rfl (by intro _ _ h; first | exact h | cases h.1) ?_
  simp only [List.take_succ_cons, List.take_zero, List.drop_succ_cons, List.drop_zero]
  refine jty (y_load rfl mem0 rfl) ?_; (iterate 2 refine jtz ?_); refine jt_call rfl (by decide) rfl (goes_func rfl) (fun w1 hw1 => pcall hw1 (wstep_any _ _ _ w1)) ?_; refine jty (y_concat rfl rfl (by first | omega | (have := pubAll_size seed k; have := stepF_small (k : Int) (secS seed k) 15; omega))) ?_; refine jt_nil ?_; refine jst ?_; refine jl_nil ?_; refine kq_block ?_; refine kq_over ?_; exact fun _ h => h
 ·intro D
  refine kq_block ?_; refine kq_then_j ?_; refine kc_seq ?_; refine kc_region rfl (by intro _ _ h; first | exact h | cases h.1) ?_; refine jz ?_; refine jl_m rfl (by decide) rfl (m_buildSlice (by decide) (Built.cell rfl rfl rfl (by repeat constructor) Built.nil)) (fun b16 => ?_); refine jpc (goes_func rfl) (fun w1 hw1 => tag_any strPublic (some ⟨b16, 0, none⟩) 1 [pubAll seed 18] w1 (by decide) (by simp) (all1 (by have := pubAll_size seed 18; omega)) (Strs.of_row (hw1.get mem0))) ?_; refine jz ?_; refine jl_nil ?_; refine kq_then ?_; refine kc_ret ?_; refine kq_postM (w0 := w) (S := []) (H := []) ?_ (fun _ h => h.part (.cons (by first | exact del0 | exact del1 | exact del2 | exact del3) .nil)); refine jq_ret1 rfl rfl ?_; exact fun _ hw => ⟨rfl, hw.ch⟩

theorem sign_any (seed msg : ByteArray) (w : World) (hs : seed.size ≤ 1000000) (hm : msg.size ≤ 1000000) :
  Calls Tryz.prog 67 #[.string seed, .string msg] w fun e w' => e = .returned (.string (signS seed msg)) ∧ Ch [] w w' := by
 refine calls_of_m (n := 24) (E := [(0, .string seed), (1, .string msg)]) (W := Hp w [] []) Tryz.func67 rfl rfl (Nat.le_of_ble_eq_true rfl) rfl (Hp.nil _ _) ?_; refine jsr ?_; refine jz ?_; refine jnt ?_; refine jsr ?_; refine jz ?_; refine jpc (goes_func rfl) (fun w1 hw1 => digits_any msg w1 hm) ?_; refine jl_m rfl (by decide) rfl (m_alloc) (fun b5 => ?_); refine jl_m rfl (by decide) rfl (m_alloc) (fun b6 => ?_); (iterate 2 refine jst ?_); refine jnt ?_; refine jc_seq ?_; refine jsr ?_; refine jz ?_; refine jl_fcall rfl (by decide) rfl (goes_func rfl) (fun w1 hw1 => secrets_any _ w1) (fun bs => ?_); refine jnt ?_; refine jc_block ?_; refine jc_range (w0 := w) (S := []) (gf := 113) (lb := [.pointer (some ⟨bs, 0, none⟩)]) 18 (fun k => [.int .i64 (k : Nat), .string (secS seed k)]) (fun k => [.cells b6 [.string (signAll seed msg k)], .cells bs [.string seed], .cells b5 ((digs msg).map (.int .i64))]) (fun k => [(5, .pointer (some ⟨b5, 0, none⟩)), (6, .pointer (some ⟨b6, 0, none⟩)), (7, .int .i64 (k : Nat)), (8, .string (secS seed k))]) rfl (fun _ => rfl) (by decide) ?_ ?_ ?_ ?_ ?_
 ·exact fun _ h => h.part (.cons del1 (.cons del0 (.cons del0 .nil)))
 ·intro l D rec w1 hw1 hY
  exact (secrets_it bs l _ (fun k w' => RJ w [] [.cells b6 [.string (signAll seed msg k)], .cells bs [.string seed], .cells b5 ((digs msg).map (.int .i64))] l D rec w') w1 (by omega) hw1 (fun k w' h => (h.get (A := .cells bs [.string seed]) mem3 : Cells _ _ _).cell 0) (fun k w' w'' h c => Hp.pure h c) hY).mono fun e w' ⟨he, hh⟩ => ⟨⟨_, he⟩, hh⟩
 ·intro l k G hk
  have hsz := signAll_size seed msg k
  have hst := stepF_small (k : Int) (secS seed k) (dig msg k)
  refine kc_weaken (F := [(13, .int .i64 (k : Nat)), (14, .string (secS seed k)), (5, .pointer (some ⟨b5, 0, none⟩)), (6, .pointer (some ⟨b6, 0, none⟩))]) ⟨rfl, rfl, rfl, rfl, trivial⟩ ?_; refine kc_world (W' := Hp w [] (.cells b6 [.string (signAll seed msg k)] :: .cells bs [.string seed] :: .cells b5 ((digs msg).map (.int .i64)) :: G)) (fun _ h => h) ?_; refine kc_seq ?_; refine kc_region rfl (by intro _ _ h; first | exact h | cases h.1) ?_; refine jz ?_; refine jl_nil ?_; refine kq_then ?_; refine kc_region rfl (by intro _ _ h; first | exact h | cases h.1) ?_; refine jz ?_; refine jl_nil ?_; refine kq_assigned ?_ ?_
  ·exact ⟨rfl, rfl, rfl, rfl, trivial⟩
  ·exact fun _ h => h
 ·intro l k G hk
  have hsz := signAll_size seed msg k
  have hst := stepF_small (k : Int) (secS seed k) (dig msg k)
  refine kc_weaken (F := [(5, .pointer (some ⟨b5, 0, none⟩)), (6, .pointer (some ⟨b6, 0, none⟩)), (7, .int .i64 (k : Nat)), (8, .string (secS seed k))]) ⟨rfl, rfl, rfl, rfl, trivial⟩ ?_; refine kc_world (W' := Hp w [] (.cells b6 [.string (signAll seed msg k)] :: .cells bs [.string seed] :: .cells b5 ((digs msg).map (.int .i64)) :: G)) (fun _ h => h) ?_; refine kc_block ?_; refine kc_tail 8 (by kernel_rfl) (fun _ h => h.drew) rfl (by intro _ _ h; first | exact h | cases h.1) ?_
  simp only [List.take_succ_cons, List.take_zero, List.drop_succ_cons, List.drop_zero]
  refine jty (y_load rfl mem0 rfl) ?_; (iterate 3 refine jtz ?_); refine jty (y_indexAddr_arr (off := k) rfl rfl (by omega) (by omega) (by omega)) ?_; refine jty (y_load rfl mem2 (map_getI _ _ (by rw [digs_length]; omega))) ?_; refine jt_as (u := .int .i64 (dig msg k)) rfl ?_; refine jt_call rfl (by decide) rfl (goes_func rfl) (fun w1 hw1 => pcall hw1 (wstep_any _ _ _ w1)) ?_; refine jty (y_concat rfl rfl (by omega)) ?_; refine jt_nil ?_; refine jst ?_; refine jl_nil ?_; refine kq_block ?_; refine kq_over ?_; exact fun _ h => h
 ·intro D
  refine kq_block ?_; refine kq_then_j ?_; refine kc_seq ?_; refine kc_region rfl (by intro _ _ h; first | exact h | cases h.1) ?_; (iterate 2 refine jz ?_); refine jl_nil ?_; refine kq_then ?_; refine kc_ret ?_; refine kq_postM (w0 := w) (S := []) (H := []) ?_ (fun _ h => h.part (.cons (by first | exact del0 | exact del1 | exact del2 | exact del3) .nil)); refine jq_ret1 rfl rfl ?_; exact fun _ hw => ⟨rfl, hw.ch⟩

theorem from_any (msg sig : ByteArray) (w : World) (hm : msg.size ≤ 1000000) :
  Calls Tryz.prog 103 #[.string msg, .string sig] w fun e w' => e = .returned (.tuple #[.string (fromS msg sig), .int .i64 (fromE sig)]) ∧ Ch [] w w' := by
 refine calls_of_m (n := 31) (E := [(0, .string msg), (1, .string sig)]) (W := Hp w [] []) Tryz.func103 rfl rfl (Nat.le_of_ble_eq_true rfl) rfl (Hp.nil _ _) ?_; refine jsr ?_; (iterate 2 refine jz ?_); refine jnt ?_; refine jc_seq ?_; refine jsr ?_; refine jz ?_; refine jy (y_len_str rfl) ?_; refine jy (y_neq rfl rfl) ?_; refine jl_prop (fun h12 => ?_) (fun h12 => ?_)
 ·first | (exfalso; omega) | (refine jnt ?_; refine jc_true rfl ?_; refine jsr ?_; (iterate 2 refine jz ?_); refine jnt ?_; refine jc_ret ?_; refine jq_then_ret ?_; refine jq_postM ?_; refine jq_ret2 rfl rfl rfl ?_; exact fun _ hw => ⟨by unfold fromS fromE; rw [if_neg (by omega), if_neg (by omega)], hw.ch⟩)
 ·first | (exfalso; omega) | (
   refine jnt ?_; refine jc_false rfl ?_; refine jc_skip ?_; refine jq_then ?_; refine jsr ?_; refine jz ?_; refine jpc (goes_func rfl) (fun w1 hw1 => digits_any msg w1 hm) ?_; refine jl_m rfl (by decide) rfl (m_alloc) (fun b6 => ?_); refine jl_m rfl (by decide) rfl (m_alloc) (fun b7 => ?_); (iterate 2 refine jst ?_); refine jnt ?_; refine jc_seq ?_; refine jsr ?_; refine jz ?_; refine jl_fcall rfl (by decide) rfl (goes_func rfl) (fun w1 hw1 => parts_any _ w1) (fun bs => ?_); refine jnt ?_; refine jc_block ?_; refine jc_range (w0 := w) (S := []) (gf := 134) (lb := [.pointer (some ⟨bs, 0, none⟩)]) 18 (fun k => [.int .i64 (k : Nat), .string (partAt sig k)]) (fun k => [.cells b7 [.string (fromAll msg sig k)], .cells bs [.string sig], .cells b6 ((digs msg).map (.int .i64))]) (fun k => [(6, .pointer (some ⟨b6, 0, none⟩)), (7, .pointer (some ⟨b7, 0, none⟩)), (8, .int .i64 (k : Nat)), (9, .string (partAt sig k))]) rfl (fun _ => rfl) (by decide) ?_ ?_ ?_ ?_ ?_
   ·exact fun _ h => h.part (.cons del1 (.cons del0 (.cons del0 .nil)))
   ·intro l D rec w1 hw1 hY
    exact (parts_it bs l _ (fun k w' => RJ w [] [.cells b7 [.string (fromAll msg sig k)], .cells bs [.string sig], .cells b6 ((digs msg).map (.int .i64))] l D rec w') w1 (by omega) hw1 (fun k w' h => (h.get (A := .cells bs [.string sig]) mem3 : Cells _ _ _).cell 0) (fun k w' w'' h c => Hp.pure h c) hY).mono fun e w' ⟨he, hh⟩ => ⟨⟨_, he⟩, hh⟩
   ·intro l k G hk
    have hsz := fromAll_size msg sig k
    have hst := stepF_small (k : Int) (partAt sig k) (15 - dig msg k)
    have hdg := dig_range msg k
    refine kc_weaken (F := [(17, .int .i64 (k : Nat)), (18, .string (partAt sig k)), (6, .pointer (some ⟨b6, 0, none⟩)), (7, .pointer (some ⟨b7, 0, none⟩))]) ⟨rfl, rfl, rfl, rfl, trivial⟩ ?_; refine kc_world (W' := Hp w [] (.cells b7 [.string (fromAll msg sig k)] :: .cells bs [.string sig] :: .cells b6 ((digs msg).map (.int .i64)) :: G)) (fun _ h => h) ?_; refine kc_seq ?_; refine kc_region rfl (by intro _ _ h; first | exact h | cases h.1) ?_; refine jz ?_; refine jl_nil ?_; refine kq_then ?_; refine kc_region rfl (by intro _ _ h; first | exact h | cases h.1) ?_; refine jz ?_; refine jl_nil ?_; refine kq_assigned ?_ ?_
    ·exact ⟨rfl, rfl, rfl, rfl, trivial⟩
    ·exact fun _ h => h
   ·intro l k G hk
    have hsz := fromAll_size msg sig k
    have hst := stepF_small (k : Int) (partAt sig k) (15 - dig msg k)
    have hdg := dig_range msg k
    refine kc_weaken (F := [(6, .pointer (some ⟨b6, 0, none⟩)), (7, .pointer (some ⟨b7, 0, none⟩)), (8, .int .i64 (k : Nat)), (9, .string (partAt sig k))]) ⟨rfl, rfl, rfl, rfl, trivial⟩ ?_; refine kc_world (W' := Hp w [] (.cells b7 [.string (fromAll msg sig k)] :: .cells bs [.string sig] :: .cells b6 ((digs msg).map (.int .i64)) :: G)) (fun _ h => h) ?_; refine kc_block ?_; refine kc_tail 9 (by kernel_rfl) (fun _ h => h.drew) rfl (by intro _ _ h; first | exact h | cases h.1) ?_
    simp only [List.take_succ_cons, List.take_zero, List.drop_succ_cons, List.drop_zero]
    refine jty (y_load rfl mem0 rfl) ?_; (iterate 3 refine jtz ?_); refine jty (y_indexAddr_arr (off := k) rfl rfl (by omega) (by omega) (by omega)) ?_; refine jty (y_load rfl mem2 (map_getI _ _ (by rw [digs_length]; omega))) ?_; refine jt_as (u := .int .i64 (dig msg k)) rfl ?_; refine jty (ysf rfl rfl) ?_; refine jt_call rfl (by decide) rfl (goes_func rfl) (fun w1 hw1 => pcall hw1 (wstep_any _ _ _ w1)) ?_; refine jty (y_concat rfl rfl (by omega)) ?_; refine jt_nil ?_; refine jst ?_; refine jl_nil ?_; refine kq_block ?_; refine kq_over ?_; exact fun _ h => h
   ·intro D
    refine kq_block ?_; refine kq_then_j ?_; refine kc_seq ?_; refine kc_region rfl (by intro _ _ h; first | exact h | cases h.1) ?_; refine jz ?_; refine jl_m rfl (by decide) rfl (m_buildSlice (by decide) (Built.cell rfl rfl rfl (by repeat constructor) Built.nil)) (fun b29 => ?_); refine jpc (goes_func rfl) (fun w1 hw1 => tag_any strPublic (some ⟨b29, 0, none⟩) 1 [fromAll msg sig 18] w1 (by decide) (by simp) (all1 (by have := fromAll_size msg sig 18; omega)) (Strs.of_row (hw1.get mem0))) ?_; (iterate 2 refine jz ?_); refine jl_nil ?_; refine kq_then ?_; refine kc_ret ?_; refine kq_postM (w0 := w) (S := []) (H := []) ?_ (fun _ h => h.part (.cons (by first | exact del0 | exact del1 | exact del2 | exact del3) .nil)); refine jq_ret2 rfl rfl rfl ?_; exact fun _ hw => ⟨by unfold fromS fromE; rw [if_pos (by omega), if_pos (by omega)], hw.ch⟩
   )

end Go.Proofs.YtghomncegjamfaaGreat