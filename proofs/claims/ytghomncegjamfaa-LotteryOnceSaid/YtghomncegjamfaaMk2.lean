/- The walks of package merkle, part two: keys. Written by program (walk.py) out of a table of contracts and invariants. -/
import Derived.Test.YtghomncegjamfaaMwots
import Derived.Test.YtghomncegjamfaaJj
import Derived.Test.YtghomncegjamfaaMmerk
import Derived.Test.YtghomncegjamfaaJl
namespace Go.Proofs.Ytghomncegjamfaa
open Go.RowKit
set_option maxRecDepth 100000
set_option linter.unusedVariables false
set_option linter.unusedSimpArgs false
attribute [local irreducible] Yields Makes Writes
theorem map_getI (l : List Int) (i : Nat) (h : i < l.length) : (l.map (Value.int .i64))[i]? = some (.int .i64 (l.getD i 0)) := map_get _ l i h
theorem extract_size {s : ByteArray} {i j : Nat} (h : i ≤ j) (h2 : j ≤ s.size) : (s.extract i j).size = j - i := by simp; omega
theorem msg8_size (msg : ByteArray) : ((msgH msg).extract 0 8).size = 8 := by rw [extract_size (by decide) (by rw [msgH_size]; decide)]
theorem msg8_get (msg : ByteArray) (i : Nat) (h : i < 8) : (ints ((msgH msg).extract 0 8)).getD i 0 = hAt msg i := by
  unfold hAt
  simp only [ints_extract, List.drop_zero, List.getD_eq_getElem?_getD, List.getElem?_take]
  rw [if_pos h]
theorem bytesV_get8 (msg : ByteArray) (sp : List Value) (i : Nat) (h : i < 8) : (bytesV ((msgH msg).extract 0 8) ++ sp)[i]? = some (.int .u8 (hAt msg i)) := by
  rw [bytesV_get _ _ _ (by rw [msg8_size]; exact h), msg8_get msg i h]

theorem digits_any (msg : ByteArray) (w : World) (hs : msg.size ≤ 1000000) :
  Calls Try.prog 63 #[.string msg] w fun e w' => e = .returned (.agg ((digs msg).map (.int .i64)).toArray) ∧ Ch [] w w' := by
 refine calls_of (n := 56) (E := [(0, .string msg)]) (W := Hp w [] []) Try.func63 rfl rfl (Nat.le_of_ble_eq_true rfl) rfl (Hp.nil _ _) ?_
 refine jsr ?_
 refine jl_m rfl (by decide) rfl (m_alloc) (fun b2 => ?_)
 refine jnt ?_
 refine jsr ?_
 refine jl_m rfl (by decide) rfl (m_alloc) (fun b3 => ?_)
 refine jnt ?_
 refine jsr ?_
 refine jz ?_
 refine jnt ?_
 refine jc_seq ?_
 refine jsr ?_
 refine jz ?_
 refine jl_m rfl (by decide) rfl (m_buildSlice (by decide) (Built.cell rfl rfl rfl (by repeat constructor) Built.nil)) (fun b8 => ?_)
 refine jpc (goes_func rfl) (fun w1 hw1 => tag_any strMessage (some ⟨b8, 0, none⟩) 1 [msg] w1 (by decide) (by simp) (all1 (hs)) (Strs.of_row (hw1.get mem0))) ?_
 refine jy (y_substr_hi rfl rfl (by decide) (by rw [tagS_size]; decide)) ?_
 refine jl_as (u := .string ((msgH msg).extract 0 8)) rfl ?_
 refine jl_m3 rfl (by decide) rfl (m_bytes rfl) (fun b11 c11 sp11 => ?_)
 refine jy (y_len_slice rfl) ?_
 refine jl_as (u := .int .i64 8) (by rw [msg8_size]; rfl) ?_
 refine jz ?_
 refine jnt ?_
 refine jc_block ?_
 refine jc_loop (fun (i : Nat) => [(2, .pointer (some ⟨b2, 0, none⟩)), (3, .pointer (some ⟨b3, 0, none⟩)), (4, .int .i64 (lackL msg i)), (11, .slice (some ⟨b11, 0, none⟩) ((msgH msg).extract 0 8).size c11), (12, .int .i64 8), (13, .int .i64 (i : Nat))]) (fun (i : Nat) => fun w' => i ≤ 8 ∧ Hp w [] [.cells b11 (bytesV ((msgH msg).extract 0 8) ++ sp11), .cells b3 ((dpad msg i).map (.int .i64)), .cells b2 (List.replicate 18 (.int .i64 0))] w') (fun (i : Nat) => 8 - i) 0 ?_ ?_ ?_
 ·exact ⟨rfl, rfl, rfl, rfl, rfl, rfl, trivial⟩
 ·exact fun _ h => ⟨by omega, h.part (.cons del0 (.cons del1 (.cons del1 .nil)))⟩
 ·intro i
  refine jc_and (fun hi => ?_)
  have hl := lackL_range msg i
  have hr := hAt_range msg i
  have h8 := msg8_size msg
  refine jsr ?_
  refine jy (y_lss rfl rfl) ?_
  refine jl_prop (fun h14 => ?_) (fun h14 => ?_)
  ·first
   | (exfalso; omega)
   | (
    refine jnt ?_
    refine jc_seq ?_
    refine jc_true rfl ?_
    refine jc_skip ?_
    refine jq_then ?_
    refine jc_seq ?_
    refine jc_block ?_
    refine jsr ?_
    refine jz ?_
    refine jy (y_indexAddr_slice (off := i) rfl rfl (by omega) (by omega) (by omega)) ?_
    refine jy (y_load rfl mem0 (bytesV_get8 _ _ _ (by omega))) ?_
    refine jz ?_
    refine jz ?_
    refine jnt ?_
    refine jsr ?_
    refine jz ?_
    refine jz ?_
    refine jy (y_add_fits rfl rfl (by simp only [fits]; omega)) ?_
    refine jz ?_
    refine jz ?_
    refine jy (y_add_fits rfl rfl (by simp only [fits]; omega)) ?_
    refine jy (y_add_fits rfl rfl (by simp only [fits]; omega)) ?_
    refine jz ?_
    first | refine jy (y_conv_fits rfl (by simp only [fits]; omega)) ?_
    refine jy (y_quo rfl rfl (by omega) (by omega) (by simp only [fits]; omega)) ?_
    refine jz ?_
    first | refine jy (y_conv_fits rfl (by simp only [fits]; omega)) ?_
    refine jy (y_rem rfl rfl (by omega) (by omega)) ?_
    refine jy (y_indexAddr_arr (off := 2 * i) rfl rfl (by omega) (by omega) (by omega)) ?_
    refine jl_w rfl rfl (w_store rfl rfl rfl (by simp only [List.length_set, List.length_map, dpad_length _ _ (show i ≤ 8 by omega)]; omega) rep1) ?_
    refine jy (y_indexAddr_arr (off := 2 * i + 1) rfl rfl (by omega) (by omega) (by omega)) ?_
    refine jl_w rfl rfl (w_store rfl rfl rfl (by simp only [List.length_set, List.length_map, dpad_length _ _ (show i ≤ 8 by omega)]; omega) rep1) ?_
    refine jnt ?_
    refine jc_world (fun _ h => h.cast (H' := [.cells b11 (bytesV ((msgH msg).extract 0 8) ++ sp11), .cells b3 ((dpad msg (i + 1)).map (.int .i64)), .cells b2 (List.replicate 18 (.int .i64 0))]) (by rw [map_set, map_set, dpad_set _ _ (by omega)])) ?_
    refine jc_draw (by kernel_rfl) (fun _ h => h.drew) ?_
    refine juz ?_
    refine juz ?_
    refine juz ?_
    refine juy (y_add_fits rfl rfl (by simp only [fits]; omega)) ?_
    refine juy (y_indexAddr_arr (off := 2 * i) rfl rfl (by omega) (by omega) (by omega)) ?_
    refine juy (y_load rfl mem1 (map_get _ _ _ (by rw [dpad_length _ _ (by omega)]; omega))) ?_
    refine ju_as (congrArg _ (dpad_at msg i (by omega)).1) ?_
    refine juy (y_sub_fits rfl rfl (by simp only [fits]; omega)) ?_
    refine juz ?_
    refine juz ?_
    refine juy (y_add_fits rfl rfl (by simp only [fits]; omega)) ?_
    refine juy (y_add_fits rfl rfl (by simp only [fits]; omega)) ?_
    refine juy (y_indexAddr_arr (off := 2 * i + 1) rfl rfl (by omega) (by omega) (by omega)) ?_
    refine juy (y_load rfl mem1 (map_get _ _ _ (by rw [dpad_length _ _ (by omega)]; omega))) ?_
    refine ju_as (congrArg _ (dpad_at msg i (by omega)).2) ?_
    refine juy (y_sub_fits rfl rfl (by simp only [fits]; omega)) ?_
    refine juy (y_add_fits rfl rfl (by simp only [fits]; omega)) ?_
    refine ju_as (u := .int .i64 (lackL msg (i + 1))) (by simp only [lackL]) ?_
    refine juz ?_
    refine ju_nil ?_
    refine jq_block ?_
    refine jq_then ?_
    refine jc_region ?_
    refine jy (y_add_fits rfl rfl (by simp only [fits]; omega)) ?_
    refine jz ?_
    refine jl_nil ?_
    refine jq_round (i := i) (i + 1) ?_ ?_ ?_
    ·omega
    ·exact ⟨rfl, rfl, rfl, rfl, rfl, lk_int rfl (by omega), trivial⟩
    ·exact fun _ h => ⟨by omega, h⟩
    )
  ·first
   | (exfalso; omega)
   | (
    refine jnt ?_
    refine jc_seq ?_
    refine jc_false rfl ?_
    refine jc_exit ?_
    refine jq_then_exit ?_
    refine jq_then_exit ?_
    refine jq_hit ?_
    refine jq_then ?_
    refine jc_seq ?_
    have hl9 := lackL_range msg 8
    have hi8 : i = 8 := by omega
    subst hi8
    refine jc_region ?_
    refine jz ?_
    refine jy (y_quo rfl rfl (by omega) (by omega) (by simp only [fits]; omega)) ?_
    refine jz ?_
    refine jy (y_rem rfl rfl (by omega) (by omega)) ?_
    refine jy (y_indexAddr_arr (off := 16) rfl rfl (by omega) (by omega) (by omega)) ?_
    refine jl_w rfl rfl (w_store rfl rfl rfl (by simp only [List.length_set, List.length_map, dpad_length _ _ (show 8 ≤ 8 by omega)]; omega) rep1) ?_
    refine jy (y_indexAddr_arr (off := 17) rfl rfl (by omega) (by omega) (by omega)) ?_
    refine jl_w rfl rfl (w_store rfl rfl rfl (by simp only [List.length_set, List.length_map, dpad_length _ _ (show 8 ≤ 8 by omega)]; omega) rep1) ?_
    refine jnt ?_
    refine jc_seq ?_
    refine jc_world (fun _ h => (h.part (H := _) (F := [.cells b3 ((((dpad msg 8).map (.int .i64)).set 16 (.int .i64 (lackL msg 8 / 16))).set 17 (.int .i64 (lackL msg 8 % 16))), .cells b2 (List.replicate 18 (.int .i64 0))]) (.cons del1 (.cons del1 .nil))).cast (H' := [.cells b3 ((digs msg).map (.int .i64)), .cells b2 (List.replicate 18 (.int .i64 0))]) (by rw [map_set, map_set, dpad_end])) ?_
    refine jc_region ?_
    refine jy (y_loadAgg rfl mem0 (TakeAt.whole (by simp [digs_length]))) ?_
    refine jl_w rfl rfl (w_storeAgg rfl rfl (by simp [digs_length]) (ones_int _ _) rep1 (PutAt.whole (by simp [digs_length]))) ?_
    refine jnt ?_
    refine jc_ret ?_
    refine jq_res (.inl rfl) rfl (.cell rfl (ld_agg mem1 (TakeAt.whole (by simp [digs_length]))) .nil) ?_
    exact fun w' hw => ⟨rfl, hw.ch⟩
    )

theorem wstep_any (p : Int) (x : ByteArray) (n : Int) (w : World) :
  Calls Try.prog 53 #[.int .i64 p, .string x, .int .i64 n] w fun e w' => e = .returned (.string (stepF p x n)) ∧ Ch [] w w' := by
 refine calls_of (n := 38) (E := [(0, .int .i64 p), (1, .string x), (2, .int .i64 n)]) (W := Hp w [] []) Try.func53 rfl rfl (Nat.le_of_ble_eq_true rfl) rfl (Hp.nil _ _) ?_
 refine jsr ?_
 refine jz ?_
 refine jnt ?_
 refine jc_seq ?_
 refine jsr ?_
 refine jz ?_
 refine jy (y_lss rfl rfl) ?_
 refine jl_prop (fun h8 => ?_) (fun h8 => ?_)
 ·first
  | (exfalso; omega)
  | (
   refine jz ?_
   refine jsk ?_
   refine jsk ?_
   refine jy (y_pick_true rfl rfl) ?_
   refine jz ?_
   refine jsk ?_
   refine jsk ?_
   refine jsk ?_
   refine jy (y_pick_true rfl rfl) ?_
   refine jz ?_
   refine jsk ?_
   refine jsk ?_
   refine jy (y_pick_true rfl rfl) ?_
   refine jz ?_
   refine jsk ?_
   refine jsk ?_
   refine jy (y_pick_true rfl rfl) ?_
   refine jnt ?_
   refine jc_true rfl ?_
   refine jsr ?_
   refine jz ?_
   refine jnt ?_
   refine jc_ret ?_
   refine jq_then_ret ?_
   refine jq_ret1 rfl rfl ?_
   exact fun _ hw => ⟨congrArg (fun z => Ending.returned (Value.string z)) (by first | (rw [stepF_neg (by omega)]) | (rw [stepF_pos (by omega)]; congr 1; omega)), hw.ch⟩
   )
 ·first
  | (exfalso; omega)
  | (
   refine jz ?_
   refine jz ?_
   refine jy (y_geq rfl rfl) ?_
   refine jl_prop (fun h11 => ?_) (fun h11 => ?_)
   ·first
    | (exfalso; omega)
    | (
     refine jy (y_pick_false rfl rfl) ?_
     refine jz ?_
     refine jsk ?_
     refine jsk ?_
     refine jsk ?_
     refine jy (y_pick_true rfl rfl) ?_
     refine jz ?_
     refine jsk ?_
     refine jsk ?_
     refine jy (y_pick_true rfl rfl) ?_
     refine jz ?_
     refine jsk ?_
     refine jsk ?_
     refine jy (y_pick_true rfl rfl) ?_
     refine jnt ?_
     refine jc_true rfl ?_
     refine jsr ?_
     refine jz ?_
     refine jnt ?_
     refine jc_ret ?_
     refine jq_then_ret ?_
     refine jq_ret1 rfl rfl ?_
     exact fun _ hw => ⟨congrArg (fun z => Ending.returned (Value.string z)) (by first | (rw [stepF_neg (by omega)]) | (rw [stepF_pos (by omega)]; congr 1; omega)), hw.ch⟩
     )
   ·first
    | (exfalso; omega)
    | (
     refine jy (y_pick_false rfl rfl) ?_
     refine jz ?_
     refine jz ?_
     refine jy (y_len_str rfl) ?_
     refine jy (y_neq rfl rfl) ?_
     refine jl_prop (fun h16 => ?_) (fun h16 => ?_)
     ·first
      | (exfalso; omega)
      | (
       refine jy (y_pick_false rfl rfl) ?_
       refine jz ?_
       refine jsk ?_
       refine jsk ?_
       refine jy (y_pick_true rfl rfl) ?_
       refine jz ?_
       refine jsk ?_
       refine jsk ?_
       refine jy (y_pick_true rfl rfl) ?_
       refine jnt ?_
       refine jc_true rfl ?_
       refine jsr ?_
       refine jz ?_
       refine jnt ?_
       refine jc_ret ?_
       refine jq_then_ret ?_
       refine jq_ret1 rfl rfl ?_
       exact fun _ hw => ⟨congrArg (fun z => Ending.returned (Value.string z)) (by first | (rw [stepF_neg (by omega)]) | (rw [stepF_pos (by omega)]; congr 1; omega)), hw.ch⟩
       )
     ·first
      | (exfalso; omega)
      | (
       refine jy (y_pick_false rfl rfl) ?_
       refine jz ?_
       refine jz ?_
       refine jy (y_lss rfl rfl) ?_
       refine jl_prop (fun h20 => ?_) (fun h20 => ?_)
       ·first
        | (exfalso; omega)
        | (
         refine jy (y_pick_false rfl rfl) ?_
         refine jz ?_
         refine jsk ?_
         refine jsk ?_
         refine jy (y_pick_true rfl rfl) ?_
         refine jnt ?_
         refine jc_true rfl ?_
         refine jsr ?_
         refine jz ?_
         refine jnt ?_
         refine jc_ret ?_
         refine jq_then_ret ?_
         refine jq_ret1 rfl rfl ?_
         exact fun _ hw => ⟨congrArg (fun z => Ending.returned (Value.string z)) (by first | (rw [stepF_neg (by omega)]) | (rw [stepF_pos (by omega)]; congr 1; omega)), hw.ch⟩
         )
       ·first
        | (exfalso; omega)
        | (
         refine jy (y_pick_false rfl rfl) ?_
         refine jz ?_
         refine jz ?_
         refine jy (y_gtr rfl rfl) ?_
         refine jl_prop (fun h24 => ?_) (fun h24 => ?_)
         ·first
          | (exfalso; omega)
          | (
           refine jy (y_pick_false rfl rfl) ?_
           refine jnt ?_
           refine jc_true rfl ?_
           refine jsr ?_
           refine jz ?_
           refine jnt ?_
           refine jc_ret ?_
           refine jq_then_ret ?_
           refine jq_ret1 rfl rfl ?_
           exact fun _ hw => ⟨congrArg (fun z => Ending.returned (Value.string z)) (by first | (rw [stepF_neg (by omega)]) | (rw [stepF_pos (by omega)]; congr 1; omega)), hw.ch⟩
           )
         ·first
          | (exfalso; omega)
          | (
           refine jy (y_pick_false rfl rfl) ?_
           refine jnt ?_
           refine jc_false rfl ?_
           refine jc_skip ?_
           refine jq_then ?_
           refine jc_seq ?_
           refine jc_seq ?_
           have hx16 : x.size = 16 := by omega
           refine jc_region ?_
           refine jz ?_
           refine jz ?_
           refine jnt ?_
           refine jc_block ?_
           refine jc_loop (fun (i : Nat) => [(0, .int .i64 p), (1, .string (stepN p x i)), (26, .int .i64 n), (27, .int .i64 (i : Nat))]) (fun (i : Nat) => fun w' => i ≤ n.toNat ∧ Hp w [] [] w') (fun (i : Nat) => n.toNat - i) 0 ?_ ?_ ?_
           ·exact ⟨rfl, rfl, rfl, rfl, trivial⟩
           ·exact fun _ h => ⟨by omega, h⟩
           ·intro i
            refine jc_and (fun hi => ?_)
            refine jsr ?_
            refine jy (y_lss rfl rfl) ?_
            refine jl_prop (fun h28 => ?_) (fun h28 => ?_)
            ·first
             | (exfalso; omega)
             | (
              refine jnt ?_
              refine jc_seq ?_
              refine jc_true rfl ?_
              refine jc_skip ?_
              refine jq_then ?_
              refine jc_seq ?_
              refine jc_block ?_
              refine jc_region ?_
              refine jz ?_
              refine jy (y_conv_u8 rfl) ?_
              refine jl_m rfl (by decide) rfl (m_buildSlice (by decide) (Built.cell rfl rfl rfl (by repeat constructor) Built.nil)) (fun b31 => ?_)
              refine jy (y_str_own rfl (by first | exact mem0 | exact mem1 | exact mem2 | exact mem3 | exact mem4 | exact mem5) (by repeat constructor)) ?_
              refine jl_as (u := .string (oneB p)) rfl ?_
              refine jz ?_
              refine jl_m rfl (by decide) rfl (m_buildSlice (by decide) (Built.cell rfl rfl rfl (by repeat constructor) (Built.cell rfl rfl rfl (by repeat constructor) Built.nil))) (fun b34 => ?_)
              refine jpc (goes_func rfl) (fun w1 hw1 => tag_any strStep (some ⟨b34, 0, none⟩) 2 [oneB p, stepN p x i] w1 (by decide) (by simp) (all2 (by rw [oneB_size]; decide) (by rw [stepN_size p x hx16]; decide)) (Strs.of_row (hw1.get mem0))) ?_
              refine jz ?_
              refine jl_nil ?_
              refine jq_block ?_
              refine jq_then ?_
              refine jc_region ?_
              refine jy (y_add_fits rfl rfl (by simp only [fits]; omega)) ?_
              refine jz ?_
              refine jl_nil ?_
              refine jq_round (i := i) (i + 1) ?_ ?_ ?_
              ·omega
              ·exact ⟨rfl, rfl, rfl, lk_int rfl (by omega), trivial⟩
              ·exact fun _ h => ⟨by omega, h.part .nil⟩
              )
            ·first
             | (exfalso; omega)
             | (
              refine jnt ?_
              refine jc_seq ?_
              refine jc_false rfl ?_
              refine jc_exit ?_
              refine jq_then_exit ?_
              refine jq_then_exit ?_
              refine jq_hit ?_
              refine jq_then ?_
              refine jsr ?_
              refine jz ?_
              refine jz ?_
              refine jnt ?_
              refine jc_ret ?_
              refine jq_ret1 rfl rfl ?_
              exact fun _ hw => ⟨congrArg (fun z => Ending.returned (Value.string z)) (by first | (rw [stepF_neg (by omega)]) | (rw [stepF_pos (by omega)]; congr 1; omega)), hw.ch⟩
              )
           )
         )
       )
     )
   )

theorem secrets_any (s : ByteArray) (w : World) :
  Calls Try.prog 52 #[.string s] w fun e w' => ∃ b, e = .returned (.func (.func 70) #[] #[.pointer (some ⟨b, 0, none⟩)]) ∧ Fresh w w' (.cells b [.string s]) := by
 refine calls_of (n := 4) (E := [(0, .string s)]) (W := Hp w [] []) Try.func52 rfl rfl (Nat.le_of_ble_eq_true rfl) rfl (Hp.nil _ _) ?_
 refine jsr ?_
 refine jl_m rfl (by decide) rfl (m_box rfl rfl) (fun b1 => ?_)
 refine jz ?_
 refine jnt ?_
 refine jsr ?_
 refine jy (y_makeFunc rfl rfl) ?_
 refine jz ?_
 refine jnt ?_
 refine jc_ret ?_
 refine jq_ret1 rfl rfl ?_
 exact fun w' hw => ⟨b1, rfl, hw.fresh⟩

theorem parts_any (s : ByteArray) (w : World) :
  Calls Try.prog 83 #[.string s] w fun e w' => ∃ b, e = .returned (.func (.func 87) #[] #[.pointer (some ⟨b, 0, none⟩)]) ∧ Fresh w w' (.cells b [.string s]) := by
 refine calls_of (n := 4) (E := [(0, .string s)]) (W := Hp w [] []) Try.func83 rfl rfl (Nat.le_of_ble_eq_true rfl) rfl (Hp.nil _ _) ?_
 refine jsr ?_
 refine jl_m rfl (by decide) rfl (m_box rfl rfl) (fun b1 => ?_)
 refine jz ?_
 refine jnt ?_
 refine jsr ?_
 refine jy (y_makeFunc rfl rfl) ?_
 refine jz ?_
 refine jnt ?_
 refine jc_ret ?_
 refine jq_ret1 rfl rfl ?_
 exact fun w' hw => ⟨b1, rfl, hw.fresh⟩

theorem secrets_it (b l : Nat) (s : ByteArray) (J : Nat → World → Prop) (w : World) (hs : s.size ≤ 1000000) (h0 : J 0 w) (hc : ∀ k w, J k w → w.cell? ⟨b, 0, none⟩ = some (.string s)) (hJ : ∀ k w w', J k w → Ch [] w w' → J k w') (hY : ∀ k w, k < 18 → J k w → YieldAt Fence.wide 0 Try.prog l [.int .i64 (k : Nat), .string (secS s k)].toArray w fun e w' => e = .returned (.bool true) ∧ J (k + 1) w') :
  Calls Try.prog 70 #[.func (.yield l) #[] #[], .pointer (some ⟨b, 0, none⟩)] w fun e w' => e = .returned (.tuple #[]) ∧ J 18 w' := by
 refine calls_of (n := 19) (E := [(0, .func (.yield l) #[] #[]), (1, .pointer (some ⟨b, 0, none⟩))]) (W := J 0) Try.func70 rfl rfl (Nat.le_of_ble_eq_true rfl) rfl h0 ?_
 refine jsr ?_
 refine jz ?_
 refine jnt ?_
 refine jc_block ?_
 refine jc_loop (fun (i : Nat) => [(0, .func (.yield l) #[] #[]), (1, .pointer (some ⟨b, 0, none⟩)), (4, .int .i64 (i : Nat))]) (fun (i : Nat) => fun w' => i ≤ 18 ∧ J i w') (fun (i : Nat) => 18 - i) 0 ?_ ?_ ?_
 ·exact ⟨rfl, rfl, rfl, trivial⟩
 ·exact fun _ h => ⟨by omega, h⟩
 ·intro i
  refine jc_and (fun hi => ?_)
  refine jsr ?_
  refine jy (y_lss rfl rfl) ?_
  refine jl_prop (fun h5 => ?_) (fun h5 => ?_)
  ·first
   | (exfalso; omega)
   | (
    refine jnt ?_
    refine jc_seq ?_
    refine jc_true rfl ?_
    refine jc_skip ?_
    refine jq_then ?_
    refine jc_seq ?_
    refine jc_block ?_
    refine jsr ?_
    refine jz ?_
    refine jz ?_
    refine jnt ?_
    refine jc_seq ?_
    refine jc_rebase (fun w0 hJ0 => ?_)
    have hcell := hc _ _ hJ0
    refine jc_split 9 rfl (by intro _ _ h; first | exact h | cases h.1) ?_
    simp only [List.take_succ_cons, List.take_zero, List.drop_succ_cons, List.drop_zero]
    refine jz ?_
    refine jz ?_
    refine jy (y_load_old rfl hcell (by simp)) ?_
    refine jz ?_
    refine jy (y_conv_u8 rfl) ?_
    refine jl_m rfl (by decide) rfl (m_buildSlice (by decide) (Built.cell rfl rfl rfl (by repeat constructor) Built.nil)) (fun b12 => ?_)
    refine jy (y_str_own rfl (by first | exact mem0 | exact mem1 | exact mem2 | exact mem3 | exact mem4 | exact mem5) (by repeat constructor)) ?_
    refine jl_as (u := .string (oneB i)) rfl ?_
    refine jl_m rfl (by decide) rfl (m_buildSlice (by decide) (Built.cell rfl rfl rfl (by repeat constructor) (Built.cell rfl rfl rfl (by repeat constructor) Built.nil))) (fun b14 => ?_)
    refine jpc (goes_func rfl) (fun w1 hw1 => tag_any strSecret (some ⟨b14, 0, none⟩) 2 [s, oneB i] w1 (by decide) (by simp) (all2 (hs) (by rw [oneB_size]; decide)) (Strs.of_row (hw1.get mem0))) ?_
    refine jl_nil ?_
    refine jq_yield (v := fun (_ : Unit) => .bool true) (W' := fun _ => J (i + 1)) rfl (by decide) rfl rfl (by intro _ _ h; first | exact h | cases h.1) rfl rfl (fun w1 hw1 => by obtain ⟨fn, tm, asg, bd, hy, hr⟩ := hY i w1 (by omega) (hJ _ _ _ hJ0 hw1.ch); exact ⟨fn, tm, asg, bd, hy, hr.mono fun e w' hh => ⟨(), hh⟩⟩) (fun _ => ?_)
    refine jz ?_
    refine jnt ?_
    refine jc_false rfl ?_
    refine jc_skip ?_
    refine jq_block ?_
    refine jq_then ?_
    refine jc_region ?_
    refine jy (y_add_fits rfl rfl (by simp only [fits]; omega)) ?_
    refine jz ?_
    refine jl_nil ?_
    refine jq_round (i := i) (i + 1) ?_ ?_ ?_
    ·omega
    ·exact ⟨rfl, rfl, lk_int rfl (by omega), trivial⟩
    ·exact fun _ h => ⟨by omega, h⟩
    )
  ·first
   | (exfalso; omega)
   | (
    refine jnt ?_
    refine jc_seq ?_
    refine jc_false rfl ?_
    refine jc_exit ?_
    refine jq_then_exit ?_
    refine jq_then_exit ?_
    refine jq_hit ?_
    refine jq_end0 rfl ?_
    exact fun w' hw => ⟨rfl, by have e : i = 18 := (by omega); subst e; exact hw⟩
    )

theorem parts_it (b l : Nat) (s : ByteArray) (J : Nat → World → Prop) (w : World) (hs : s.size = 288) (h0 : J 0 w) (hc : ∀ k w, J k w → w.cell? ⟨b, 0, none⟩ = some (.string s)) (hJ : ∀ k w w', J k w → Ch [] w w' → J k w') (hY : ∀ k w, k < 18 → J k w → YieldAt Fence.wide 0 Try.prog l [.int .i64 (k : Nat), .string (partAt s k)].toArray w fun e w' => e = .returned (.bool true) ∧ J (k + 1) w') :
  Calls Try.prog 87 #[.func (.yield l) #[] #[], .pointer (some ⟨b, 0, none⟩)] w fun e w' => e = .returned (.tuple #[]) ∧ J 18 w' := by
 refine calls_of (n := 19) (E := [(0, .func (.yield l) #[] #[]), (1, .pointer (some ⟨b, 0, none⟩))]) (W := J 0) Try.func87 rfl rfl (Nat.le_of_ble_eq_true rfl) rfl h0 ?_
 refine jsr ?_
 refine jz ?_
 refine jnt ?_
 refine jc_block ?_
 refine jc_loop (fun (i : Nat) => [(0, .func (.yield l) #[] #[]), (1, .pointer (some ⟨b, 0, none⟩)), (4, .int .i64 (i : Nat))]) (fun (i : Nat) => fun w' => i ≤ 18 ∧ J i w') (fun (i : Nat) => 18 - i) 0 ?_ ?_ ?_
 ·exact ⟨rfl, rfl, rfl, trivial⟩
 ·exact fun _ h => ⟨by omega, h⟩
 ·intro i
  refine jc_and (fun hi => ?_)
  refine jsr ?_
  refine jy (y_lss rfl rfl) ?_
  refine jl_prop (fun h5 => ?_) (fun h5 => ?_)
  ·first
   | (exfalso; omega)
   | (
    refine jnt ?_
    refine jc_seq ?_
    refine jc_true rfl ?_
    refine jc_skip ?_
    refine jq_then ?_
    refine jc_seq ?_
    refine jc_block ?_
    refine jsr ?_
    refine jz ?_
    refine jz ?_
    refine jnt ?_
    refine jc_seq ?_
    refine jc_rebase (fun w0 hJ0 => ?_)
    have hcell := hc _ _ hJ0
    refine jc_split 9 rfl (by intro _ _ h; first | exact h | cases h.1) ?_
    simp only [List.take_succ_cons, List.take_zero, List.drop_succ_cons, List.drop_zero]
    refine jz ?_
    refine jz ?_
    refine jy (y_load_old rfl hcell (by simp)) ?_
    refine jz ?_
    refine jy (y_mul_fits rfl rfl (by simp only [fits]; omega)) ?_
    refine jz ?_
    refine jy (y_add_fits rfl rfl (by simp only [fits]; omega)) ?_
    refine jy (y_mul_fits rfl rfl (by simp only [fits]; omega)) ?_
    refine jy (y_substr rfl rfl rfl (by omega) (by omega) (by omega)) ?_
    refine jl_as (u := .string (partAt s i)) (congrArg Value.string (by unfold partAt; congr 1 <;> omega)) ?_
    refine jl_nil ?_
    refine jq_yield (v := fun (_ : Unit) => .bool true) (W' := fun _ => J (i + 1)) rfl (by decide) rfl rfl (by intro _ _ h; first | exact h | cases h.1) rfl rfl (fun w1 hw1 => by obtain ⟨fn, tm, asg, bd, hy, hr⟩ := hY i w1 (by omega) (hJ _ _ _ hJ0 hw1.ch); exact ⟨fn, tm, asg, bd, hy, hr.mono fun e w' hh => ⟨(), hh⟩⟩) (fun _ => ?_)
    refine jz ?_
    refine jnt ?_
    refine jc_false rfl ?_
    refine jc_skip ?_
    refine jq_block ?_
    refine jq_then ?_
    refine jc_region ?_
    refine jy (y_add_fits rfl rfl (by simp only [fits]; omega)) ?_
    refine jz ?_
    refine jl_nil ?_
    refine jq_round (i := i) (i + 1) ?_ ?_ ?_
    ·omega
    ·exact ⟨rfl, rfl, lk_int rfl (by omega), trivial⟩
    ·exact fun _ h => ⟨by omega, h⟩
    )
  ·first
   | (exfalso; omega)
   | (
    refine jnt ?_
    refine jc_seq ?_
    refine jc_false rfl ?_
    refine jc_exit ?_
    refine jq_then_exit ?_
    refine jq_then_exit ?_
    refine jq_hit ?_
    refine jq_end0 rfl ?_
    exact fun w' hw => ⟨rfl, by have e : i = 18 := (by omega); subst e; exact hw⟩
    )

theorem public_any (seed : ByteArray) (w : World) (hs : seed.size ≤ 1000000) :
  Calls Try.prog 27 #[.string seed] w fun e w' => e = .returned (.string (pubS seed)) ∧ Ch [] w w' := by
 refine calls_of_m (n := 18) (E := [(0, .string seed)]) (W := Hp w [] []) Try.func27 rfl rfl (Nat.le_of_ble_eq_true rfl) rfl (Hp.nil _ _) ?_
 refine jsr ?_
 refine jz ?_
 refine jnt ?_
 refine jsr ?_
 refine jl_m rfl (by decide) rfl (m_alloc) (fun b3 => ?_)
 refine jst ?_
 refine jnt ?_
 refine jc_seq ?_
 refine jsr ?_
 refine jz ?_
 refine jl_fcall rfl (by decide) rfl (goes_func rfl) (fun w1 hw1 => secrets_any _ w1) (fun bs => ?_)
 refine jnt ?_
 refine jc_block ?_
 refine jc_range (w0 := w) (S := []) (gf := 70) (lb := [.pointer (some ⟨bs, 0, none⟩)]) 18 (fun k => [.int .i64 (k : Nat), .string (secS seed k)]) (fun k => [.cells b3 [.string (pubAll seed k)], .cells bs [.string seed]]) (fun k => [(3, .pointer (some ⟨b3, 0, none⟩)), (4, .int .i64 (k : Nat)), (5, .string (secS seed k))]) rfl (fun _ => rfl) (by decide) ?_ ?_ ?_ ?_ ?_
 ·exact fun _ h => h.perm (List.Perm.swap _ _ _)
 ·intro l D rec w1 hw1 hY
  exact (secrets_it bs l _ (fun k w' => RJ w [] [.cells b3 [.string (pubAll seed k)], .cells bs [.string seed]] l D rec w') w1 (by omega) hw1 (fun k w' h => (h.get (A := .cells bs [.string seed]) mem3 : Cells _ _ _).cell 0) (fun k w' w'' h c => Hp.pure h c) hY).mono fun e w' ⟨he, hh⟩ => ⟨⟨_, he⟩, hh⟩
 ·intro l k G hk
  have hsz := pubAll_size seed k
  have hst := stepF_small (k : Int) (secS seed k) 15
  refine kc_weaken (F := [(8, .int .i64 (k : Nat)), (9, .string (secS seed k)), (3, .pointer (some ⟨b3, 0, none⟩))]) ⟨rfl, rfl, rfl, trivial⟩ ?_
  refine kc_world (W' := Hp w [] (.cells b3 [.string (pubAll seed k)] :: .cells bs [.string seed] :: G)) (fun _ h => h) ?_
  refine kc_seq ?_
  refine kc_region rfl (by intro _ _ h; first | exact h | cases h.1) ?_
  refine jz ?_
  refine jl_nil ?_
  refine kq_then ?_
  refine kc_region rfl (by intro _ _ h; first | exact h | cases h.1) ?_
  refine jz ?_
  refine jl_nil ?_
  refine kq_assigned ?_ ?_
  ·exact ⟨rfl, rfl, rfl, trivial⟩
  ·exact fun _ h => h
 ·intro l k G hk
  have hsz := pubAll_size seed k
  have hst := stepF_small (k : Int) (secS seed k) 15
  refine kc_weaken (F := [(3, .pointer (some ⟨b3, 0, none⟩)), (4, .int .i64 (k : Nat)), (5, .string (secS seed k))]) ⟨rfl, rfl, rfl, trivial⟩ ?_
  refine kc_world (W' := Hp w [] (.cells b3 [.string (pubAll seed k)] :: .cells bs [.string seed] :: G)) (fun _ h => h) ?_
  refine kc_block ?_
  refine kc_tail 5 (by kernel_rfl) (fun _ h => h.drew) rfl (by intro _ _ h; first | exact h | cases h.1) ?_
  simp only [List.take_succ_cons, List.take_zero, List.drop_succ_cons, List.drop_zero]
  refine jty (y_load rfl mem0 rfl) ?_
  refine jtz ?_
  refine jtz ?_
  refine jt_call rfl (by decide) rfl (goes_func rfl) (fun w1 hw1 => pcall hw1 (wstep_any _ _ _ w1)) ?_
  refine jty (y_concat rfl rfl (by first | omega | (have := pubAll_size seed k; have := stepF_small (k : Int) (secS seed k) 15; omega))) ?_
  refine jt_nil ?_
  refine jst ?_
  refine jl_nil ?_
  refine kq_block ?_
  refine kq_over ?_
  exact fun _ h => h
 ·intro D
  refine kq_block ?_
  refine kq_then_j ?_
  refine kc_seq ?_
  refine kc_region rfl (by intro _ _ h; first | exact h | cases h.1) ?_
  refine jz ?_
  refine jl_m rfl (by decide) rfl (m_buildSlice (by decide) (Built.cell rfl rfl rfl (by repeat constructor) Built.nil)) (fun b16 => ?_)
  refine jpc (goes_func rfl) (fun w1 hw1 => tag_any strPublic (some ⟨b16, 0, none⟩) 1 [pubAll seed 18] w1 (by decide) (by simp) (all1 (by have := pubAll_size seed 18; omega)) (Strs.of_row (hw1.get mem0))) ?_
  refine jz ?_
  refine jl_nil ?_
  refine kq_then ?_
  refine kc_ret ?_
  refine kq_postM (w0 := w) (S := []) (H := []) ?_ (fun _ h => h.part (.cons (by first | exact del0 | exact del1 | exact del2 | exact del3) .nil))
  refine jq_ret1 rfl rfl ?_
  exact fun _ hw => ⟨rfl, hw.ch⟩

theorem sign_any (seed msg : ByteArray) (w : World) (hs : seed.size ≤ 1000000) (hm : msg.size ≤ 1000000) :
  Calls Try.prog 36 #[.string seed, .string msg] w fun e w' => e = .returned (.string (signS seed msg)) ∧ Ch [] w w' := by
 refine calls_of_m (n := 24) (E := [(0, .string seed), (1, .string msg)]) (W := Hp w [] []) Try.func36 rfl rfl (Nat.le_of_ble_eq_true rfl) rfl (Hp.nil _ _) ?_
 refine jsr ?_
 refine jz ?_
 refine jnt ?_
 refine jsr ?_
 refine jz ?_
 refine jpc (goes_func rfl) (fun w1 hw1 => digits_any msg w1 hm) ?_
 refine jl_m rfl (by decide) rfl (m_alloc) (fun b5 => ?_)
 refine jl_m rfl (by decide) rfl (m_alloc) (fun b6 => ?_)
 refine jst ?_
 refine jst ?_
 refine jnt ?_
 refine jc_seq ?_
 refine jsr ?_
 refine jz ?_
 refine jl_fcall rfl (by decide) rfl (goes_func rfl) (fun w1 hw1 => secrets_any _ w1) (fun bs => ?_)
 refine jnt ?_
 refine jc_block ?_
 refine jc_range (w0 := w) (S := []) (gf := 70) (lb := [.pointer (some ⟨bs, 0, none⟩)]) 18 (fun k => [.int .i64 (k : Nat), .string (secS seed k)]) (fun k => [.cells b6 [.string (signAll seed msg k)], .cells bs [.string seed], .cells b5 ((digs msg).map (.int .i64))]) (fun k => [(5, .pointer (some ⟨b5, 0, none⟩)), (6, .pointer (some ⟨b6, 0, none⟩)), (7, .int .i64 (k : Nat)), (8, .string (secS seed k))]) rfl (fun _ => rfl) (by decide) ?_ ?_ ?_ ?_ ?_
 ·exact fun _ h => h.part (.cons del1 (.cons del0 (.cons del0 .nil)))
 ·intro l D rec w1 hw1 hY
  exact (secrets_it bs l _ (fun k w' => RJ w [] [.cells b6 [.string (signAll seed msg k)], .cells bs [.string seed], .cells b5 ((digs msg).map (.int .i64))] l D rec w') w1 (by omega) hw1 (fun k w' h => (h.get (A := .cells bs [.string seed]) mem3 : Cells _ _ _).cell 0) (fun k w' w'' h c => Hp.pure h c) hY).mono fun e w' ⟨he, hh⟩ => ⟨⟨_, he⟩, hh⟩
 ·intro l k G hk
  have hsz := signAll_size seed msg k
  have hst := stepF_small (k : Int) (secS seed k) (dig msg k)
  refine kc_weaken (F := [(13, .int .i64 (k : Nat)), (14, .string (secS seed k)), (5, .pointer (some ⟨b5, 0, none⟩)), (6, .pointer (some ⟨b6, 0, none⟩))]) ⟨rfl, rfl, rfl, rfl, trivial⟩ ?_
  refine kc_world (W' := Hp w [] (.cells b6 [.string (signAll seed msg k)] :: .cells bs [.string seed] :: .cells b5 ((digs msg).map (.int .i64)) :: G)) (fun _ h => h) ?_
  refine kc_seq ?_
  refine kc_region rfl (by intro _ _ h; first | exact h | cases h.1) ?_
  refine jz ?_
  refine jl_nil ?_
  refine kq_then ?_
  refine kc_region rfl (by intro _ _ h; first | exact h | cases h.1) ?_
  refine jz ?_
  refine jl_nil ?_
  refine kq_assigned ?_ ?_
  ·exact ⟨rfl, rfl, rfl, rfl, trivial⟩
  ·exact fun _ h => h
 ·intro l k G hk
  have hsz := signAll_size seed msg k
  have hst := stepF_small (k : Int) (secS seed k) (dig msg k)
  refine kc_weaken (F := [(5, .pointer (some ⟨b5, 0, none⟩)), (6, .pointer (some ⟨b6, 0, none⟩)), (7, .int .i64 (k : Nat)), (8, .string (secS seed k))]) ⟨rfl, rfl, rfl, rfl, trivial⟩ ?_
  refine kc_world (W' := Hp w [] (.cells b6 [.string (signAll seed msg k)] :: .cells bs [.string seed] :: .cells b5 ((digs msg).map (.int .i64)) :: G)) (fun _ h => h) ?_
  refine kc_block ?_
  refine kc_tail 8 (by kernel_rfl) (fun _ h => h.drew) rfl (by intro _ _ h; first | exact h | cases h.1) ?_
  simp only [List.take_succ_cons, List.take_zero, List.drop_succ_cons, List.drop_zero]
  refine jty (y_load rfl mem0 rfl) ?_
  refine jtz ?_
  refine jtz ?_
  refine jtz ?_
  refine jty (y_indexAddr_arr (off := k) rfl rfl (by omega) (by omega) (by omega)) ?_
  refine jty (y_load rfl mem2 (map_getI _ _ (by rw [digs_length]; omega))) ?_
  refine jt_as (u := .int .i64 (dig msg k)) rfl ?_
  refine jt_call rfl (by decide) rfl (goes_func rfl) (fun w1 hw1 => pcall hw1 (wstep_any _ _ _ w1)) ?_
  refine jty (y_concat rfl rfl (by omega)) ?_
  refine jt_nil ?_
  refine jst ?_
  refine jl_nil ?_
  refine kq_block ?_
  refine kq_over ?_
  exact fun _ h => h
 ·intro D
  refine kq_block ?_
  refine kq_then_j ?_
  refine kc_seq ?_
  refine kc_region rfl (by intro _ _ h; first | exact h | cases h.1) ?_
  refine jz ?_
  refine jz ?_
  refine jl_nil ?_
  refine kq_then ?_
  refine kc_ret ?_
  refine kq_postM (w0 := w) (S := []) (H := []) ?_ (fun _ h => h.part (.cons (by first | exact del0 | exact del1 | exact del2 | exact del3) .nil))
  refine jq_ret1 rfl rfl ?_
  exact fun _ hw => ⟨rfl, hw.ch⟩

theorem from_any (msg sig : ByteArray) (w : World) (hm : msg.size ≤ 1000000) :
  Calls Try.prog 79 #[.string msg, .string sig] w fun e w' => e = .returned (.tuple #[.string (fromS msg sig), .int .i64 (fromE sig)]) ∧ Ch [] w w' := by
 refine calls_of_m (n := 31) (E := [(0, .string msg), (1, .string sig)]) (W := Hp w [] []) Try.func79 rfl rfl (Nat.le_of_ble_eq_true rfl) rfl (Hp.nil _ _) ?_
 refine jsr ?_
 refine jz ?_
 refine jz ?_
 refine jnt ?_
 refine jc_seq ?_
 refine jsr ?_
 refine jz ?_
 refine jy (y_len_str rfl) ?_
 refine jy (y_neq rfl rfl) ?_
 refine jl_prop (fun h12 => ?_) (fun h12 => ?_)
 ·first
  | (exfalso; omega)
  | (
   refine jnt ?_
   refine jc_true rfl ?_
   refine jsr ?_
   refine jz ?_
   refine jz ?_
   refine jnt ?_
   refine jc_ret ?_
   refine jq_then_ret ?_
   refine jq_postM ?_
   refine jq_ret2 rfl rfl rfl ?_
   exact fun _ hw => ⟨by unfold fromS fromE; rw [if_neg (by omega), if_neg (by omega)], hw.ch⟩
   )
 ·first
  | (exfalso; omega)
  | (
   refine jnt ?_
   refine jc_false rfl ?_
   refine jc_skip ?_
   refine jq_then ?_
   refine jsr ?_
   refine jz ?_
   refine jpc (goes_func rfl) (fun w1 hw1 => digits_any msg w1 hm) ?_
   refine jl_m rfl (by decide) rfl (m_alloc) (fun b6 => ?_)
   refine jl_m rfl (by decide) rfl (m_alloc) (fun b7 => ?_)
   refine jst ?_
   refine jst ?_
   refine jnt ?_
   refine jc_seq ?_
   refine jsr ?_
   refine jz ?_
   refine jl_fcall rfl (by decide) rfl (goes_func rfl) (fun w1 hw1 => parts_any _ w1) (fun bs => ?_)
   refine jnt ?_
   refine jc_block ?_
   refine jc_range (w0 := w) (S := []) (gf := 87) (lb := [.pointer (some ⟨bs, 0, none⟩)]) 18 (fun k => [.int .i64 (k : Nat), .string (partAt sig k)]) (fun k => [.cells b7 [.string (fromAll msg sig k)], .cells bs [.string sig], .cells b6 ((digs msg).map (.int .i64))]) (fun k => [(6, .pointer (some ⟨b6, 0, none⟩)), (7, .pointer (some ⟨b7, 0, none⟩)), (8, .int .i64 (k : Nat)), (9, .string (partAt sig k))]) rfl (fun _ => rfl) (by decide) ?_ ?_ ?_ ?_ ?_
   ·exact fun _ h => h.part (.cons del1 (.cons del0 (.cons del0 .nil)))
   ·intro l D rec w1 hw1 hY
    exact (parts_it bs l _ (fun k w' => RJ w [] [.cells b7 [.string (fromAll msg sig k)], .cells bs [.string sig], .cells b6 ((digs msg).map (.int .i64))] l D rec w') w1 (by omega) hw1 (fun k w' h => (h.get (A := .cells bs [.string sig]) mem3 : Cells _ _ _).cell 0) (fun k w' w'' h c => Hp.pure h c) hY).mono fun e w' ⟨he, hh⟩ => ⟨⟨_, he⟩, hh⟩
   ·intro l k G hk
    have hsz := fromAll_size msg sig k
    have hst := stepF_small (k : Int) (partAt sig k) (15 - dig msg k)
    have hdg := dig_range msg k
    refine kc_weaken (F := [(17, .int .i64 (k : Nat)), (18, .string (partAt sig k)), (6, .pointer (some ⟨b6, 0, none⟩)), (7, .pointer (some ⟨b7, 0, none⟩))]) ⟨rfl, rfl, rfl, rfl, trivial⟩ ?_
    refine kc_world (W' := Hp w [] (.cells b7 [.string (fromAll msg sig k)] :: .cells bs [.string sig] :: .cells b6 ((digs msg).map (.int .i64)) :: G)) (fun _ h => h) ?_
    refine kc_seq ?_
    refine kc_region rfl (by intro _ _ h; first | exact h | cases h.1) ?_
    refine jz ?_
    refine jl_nil ?_
    refine kq_then ?_
    refine kc_region rfl (by intro _ _ h; first | exact h | cases h.1) ?_
    refine jz ?_
    refine jl_nil ?_
    refine kq_assigned ?_ ?_
    ·exact ⟨rfl, rfl, rfl, rfl, trivial⟩
    ·exact fun _ h => h
   ·intro l k G hk
    have hsz := fromAll_size msg sig k
    have hst := stepF_small (k : Int) (partAt sig k) (15 - dig msg k)
    have hdg := dig_range msg k
    refine kc_weaken (F := [(6, .pointer (some ⟨b6, 0, none⟩)), (7, .pointer (some ⟨b7, 0, none⟩)), (8, .int .i64 (k : Nat)), (9, .string (partAt sig k))]) ⟨rfl, rfl, rfl, rfl, trivial⟩ ?_
    refine kc_world (W' := Hp w [] (.cells b7 [.string (fromAll msg sig k)] :: .cells bs [.string sig] :: .cells b6 ((digs msg).map (.int .i64)) :: G)) (fun _ h => h) ?_
    refine kc_block ?_
    refine kc_tail 9 (by kernel_rfl) (fun _ h => h.drew) rfl (by intro _ _ h; first | exact h | cases h.1) ?_
    simp only [List.take_succ_cons, List.take_zero, List.drop_succ_cons, List.drop_zero]
    refine jty (y_load rfl mem0 rfl) ?_
    refine jtz ?_
    refine jtz ?_
    refine jtz ?_
    refine jty (y_indexAddr_arr (off := k) rfl rfl (by omega) (by omega) (by omega)) ?_
    refine jty (y_load rfl mem2 (map_getI _ _ (by rw [digs_length]; omega))) ?_
    refine jt_as (u := .int .i64 (dig msg k)) rfl ?_
    refine jty (y_sub_fits rfl rfl (by simp only [fits]; omega)) ?_
    refine jt_call rfl (by decide) rfl (goes_func rfl) (fun w1 hw1 => pcall hw1 (wstep_any _ _ _ w1)) ?_
    refine jty (y_concat rfl rfl (by omega)) ?_
    refine jt_nil ?_
    refine jst ?_
    refine jl_nil ?_
    refine kq_block ?_
    refine kq_over ?_
    exact fun _ h => h
   ·intro D
    refine kq_block ?_
    refine kq_then_j ?_
    refine kc_seq ?_
    refine kc_region rfl (by intro _ _ h; first | exact h | cases h.1) ?_
    refine jz ?_
    refine jl_m rfl (by decide) rfl (m_buildSlice (by decide) (Built.cell rfl rfl rfl (by repeat constructor) Built.nil)) (fun b29 => ?_)
    refine jpc (goes_func rfl) (fun w1 hw1 => tag_any strPublic (some ⟨b29, 0, none⟩) 1 [fromAll msg sig 18] w1 (by decide) (by simp) (all1 (by have := fromAll_size msg sig 18; omega)) (Strs.of_row (hw1.get mem0))) ?_
    refine jz ?_
    refine jz ?_
    refine jl_nil ?_
    refine kq_then ?_
    refine kc_ret ?_
    refine kq_postM (w0 := w) (S := []) (H := []) ?_ (fun _ h => h.part (.cons (by first | exact del0 | exact del1 | exact del2 | exact del3) .nil))
    refine jq_ret2 rfl rfl rfl ?_
    exact fun _ hw => ⟨by unfold fromS fromE; rw [if_pos (by omega), if_pos (by omega)], hw.ch⟩
   )

end Go.Proofs.Ytghomncegjamfaa

namespace Go.Proofs.Ytghomncegjamfaa
open Go.RowKit
set_option maxRecDepth 100000
set_option linter.unusedVariables false
set_option linter.unusedSimpArgs false
attribute [local irreducible] Yields Makes Writes
def oddB (p : ByteArray) : Bool := decide ((p.size : Int) ≠ 16)
theorem oddB_no {p : ByteArray} (h : p.size = 16) : oddB p = false := by unfold oddB; rw [h]; rfl
theorem oddB_size {p : ByteArray} (h : oddB p = false) : p.size = 16 := by unfold oddB at h; have := of_decide_eq_false h; omega
theorem any_even {ps : List ByteArray} (h : ∀ p ∈ ps, p.size = 16) : ps.any oddB = false := List.any_eq_false.2 fun p hp => by rw [oddB_no (h p hp)]; simp
theorem any_size {ps : List ByteArray} (h : ps.any oddB = false) : ∀ p ∈ ps, p.size = 16 := fun p hp => oddB_size (by have := List.any_eq_false.1 h p hp; simpa using this)
theorem xor_one {n : Nat} (h : n < 16) : bits .xor .i64 ((n : Nat) : Int) 1 = ((sib n : Nat) : Int) := by
  have : ∀ m : Fin 16, bits .xor .i64 ((m.val : Nat) : Int) 1 = ((sib m.val : Nat) : Int) := by decide +kernel
  exact this ⟨n, h⟩
theorem and_two {n : Nat} (h : n < 16) : bits .and .i64 ((n : Nat) : Int) 1 = ((n % 2 : Nat) : Int) := by
  have : ∀ m : Fin 16, bits .and .i64 ((m.val : Nat) : Int) 1 = ((m.val % 2 : Nat) : Int) := by decide +kernel
  exact this ⟨n, h⟩
theorem half_step (i k : Nat) : ((i / 2 ^ k : Nat) : Int) / 2 = ((i / 2 ^ (k + 1) : Nat) : Int) := by
  rw [Nat.pow_succ, ← Nat.div_div_eq_div_mul]; rfl
theorem div_small {i k m : Nat} (h : i < m) : i / 2 ^ k < m := Nat.lt_of_le_of_lt (Nat.div_le_self _ _) h
theorem pow_one_zero {k : Nat} (h : 2 ^ k ≤ 1) : k = 0 := by
  cases k with
  | zero => rfl
  | succ k => rw [Nat.pow_succ] at h; have := Nat.two_pow_pos k; omega
/-- Slices of strings, as values; and where they lie. -/
def RowVals (w : World) (vs : List Value) (rs : List (List ByteArray)) : Prop := ∀ (j : Nat) (r : List ByteArray), rs[j]? = some r → ∃ adj cj, vs[j]? = some (Value.slice adj r.length cj) ∧ Strs w adj r
def RowsAt (w : World) (b : Nat) (rs : List (List ByteArray)) : Prop := ∀ (j : Nat) (r : List ByteArray), rs[j]? = some r → ∃ adj cj, w.cell? ⟨b, j, none⟩ = some (Value.slice adj r.length cj) ∧ Strs w adj r
theorem RowsAt.keep {w w1 : World} {b : Nat} {rs : List (List ByteArray)} {H : List HA} (h : RowsAt w b rs) (hw : Hp w [] H w1) : RowsAt w1 b rs := fun j r hr => let ⟨adj, cj, h1, h2⟩ := h j r hr; ⟨adj, cj, hw.cell h1 (by simp), h2.keep hw⟩
def rowsL (l : List ByteArray) (k : Nat) : List (List ByteArray) := (List.range (k + 1)).map (rowN l)
theorem rowsL_at {l : List ByteArray} {j k : Nat} (h : j ≤ k) : (rowsL l k)[j]? = some (rowN l j) := by unfold rowsL; rw [List.getElem?_map, List.getElem?_range (by omega)]; rfl
theorem rowsL_succ (l : List ByteArray) (k : Nat) : rowsL l (k + 1) = l :: rowsL (aboveL l) k := by
  unfold rowsL
  rw [List.range_succ_eq_map, List.map_cons, List.map_map]
  congr 1
  apply List.map_congr_left
  intro j _
  exact (rowN_above l j).symm
theorem RowVals.cons {w : World} {vs : List Value} {rs : List (List ByteArray)} {adj : Option Addr} {cj : Nat} {r : List ByteArray} (h : RowVals w vs rs) (hr : Strs w adj r) : RowVals w (.slice adj r.length cj :: vs) (r :: rs) := by
  intro j s hs
  cases j with
  | zero => simp only [List.getElem?_cons_zero, Option.some.injEq] at hs; subst hs; exact ⟨adj, cj, rfl, hr⟩
  | succ j => exact h j s (by simpa using hs)
def rowBlk (ad : Option Addr) : List Nat := (ad.map (·.block)).toList
theorem rowBlk_foot {ad : Option Addr} {n c e s : Nat} {xs : List Value} {k : Nat} (h : (HA.row ad n c e s xs).foot = some k) : k ∈ rowBlk ad := by
  unfold rowBlk; simp only [HA.foot] at h; simp [h]
theorem rowBlk_mem {ad : Option Addr} {k : Nat} (h : k ∈ rowBlk ad) : ∃ o b, ad = some ⟨k, o, b⟩ := by
  unfold rowBlk at h
  cases ad with
  | none => simp at h
  | some a => simp at h; subst h; exact ⟨_, _, rfl⟩

theorem mone_any (n : Int) (w : World) :
  Calls Try.prog 35 #[.int .i64 n] w fun e w' => e = .returned (.string (oneB n)) ∧ Ch [] w w' := by
 refine calls_of (n := 7) (E := [(0, .int .i64 n)]) (W := Hp w [] []) Try.func35 rfl rfl (Nat.le_of_ble_eq_true rfl) rfl (Hp.nil _ _) ?_
 refine jsr ?_
 refine jz ?_
 refine jnt ?_
 refine jsr ?_
 refine jz ?_
 refine jy (y_conv_u8 rfl) ?_
 refine jl_m rfl (by decide) rfl (m_buildSlice (by decide) (Built.cell rfl rfl rfl (by repeat constructor) Built.nil)) (fun b5 => ?_)
 refine jy (y_str_own rfl (by first | exact mem0 | exact mem1 | exact mem2 | exact mem3 | exact mem4 | exact mem5) (by repeat constructor)) ?_
 refine jl_as (u := .string (oneB n)) rfl ?_
 refine jz ?_
 refine jnt ?_
 refine jc_ret ?_
 refine jq_ret1 rfl rfl ?_
 exact fun _ hw => ⟨rfl, hw.ch⟩

theorem odd_any (p : ByteArray) (w : World) :
  Calls Try.prog 73 #[.string p] w fun e w' => e = .returned (.bool (oddB p)) ∧ Ch [] w w' := by
 refine calls_of (n := 6) (E := [(0, .string p)]) (W := Hp w [] []) Try.func73 rfl rfl (Nat.le_of_ble_eq_true rfl) rfl (Hp.nil _ _) ?_
 refine jsr ?_
 refine jz ?_
 refine jnt ?_
 refine jsr ?_
 refine jz ?_
 refine jy (y_len_str rfl) ?_
 refine jy (y_neq rfl rfl) ?_
 refine jz ?_
 refine jnt ?_
 refine jc_ret ?_
 refine jq_ret1 rfl rfl ?_
 exact fun _ hw => ⟨rfl, hw.ch⟩

theorem idxOdd_any (ad : Option Addr) (c : Nat) (ps : List ByteArray) (w : World) (hl : ps.length ≤ 1000000) (hps : Strs w ad ps) :
  Calls Try.prog 82 #[.slice ad ps.length c, .func (.func 73) #[] #[]] w fun e w' => e = .returned (.int .i64 (idxF oddB ps)) ∧ Ch [] w w' := by
 refine calls_of (n := 19) (E := [(0, .slice ad ps.length c), (1, .func (.func 73) #[] #[])]) (W := Hp w [] []) Try.func82 rfl rfl (Nat.le_of_ble_eq_true rfl) rfl (Hp.nil _ _) ?_
 refine jsr ?_
 refine jz ?_
 refine jnt ?_
 refine jc_seq ?_
 refine jsr ?_
 refine jz ?_
 refine jy (y_len_slice rfl) ?_
 refine jz ?_
 refine jnt ?_
 refine jc_block ?_
 refine jc_loop (fun (i : Nat) => [(0, .slice ad ps.length c), (1, .func (.func 73) #[] #[]), (7, .int .i64 ps.length), (8, .int .i64 (i : Nat))]) (fun (i : Nat) => fun w' => (i ≤ ps.length ∧ ∀ j z, j < i → ps[j]? = some z → oddB z = false) ∧ Hp w [] [] w') (fun (i : Nat) => ps.length - i) 0 ?_ ?_ ?_
 ·exact ⟨rfl, rfl, rfl, rfl, trivial⟩
 ·exact fun _ h => ⟨⟨by omega, fun j z hj _ => absurd hj (by omega)⟩, h⟩
 ·intro i
  refine jc_and (fun hi2 => ?_)
  obtain ⟨hi, hno⟩ := hi2
  refine jsr ?_
  refine jy (y_lss rfl rfl) ?_
  refine jl_prop (fun h9 => ?_) (fun h9 => ?_)
  ·first
   | (exfalso; omega)
   | (
    obtain ⟨bb, oo, rfl, hc⟩ := hps (i) _ (at0_some (show i < (ps).length by omega))
    refine jnt ?_
    refine jc_seq ?_
    refine jc_true rfl ?_
    refine jc_skip ?_
    refine jq_then ?_
    refine jc_seq ?_
    refine jc_block ?_
    refine jsr ?_
    refine jz ?_
    refine jz ?_
    refine jnt ?_
    refine jsr ?_
    refine jz ?_
    refine jz ?_
    refine jz ?_
    refine jy (y_indexAddr_slice (off := oo + i) rfl rfl (by omega) (by omega) (by omega)) ?_
    refine jy (y_load_old rfl hc (by simp)) ?_
    refine jl_pcall rfl (by decide) rfl (goes_value rfl rfl) (fun w1 hw1 => pcall hw1 (odd_any (at0 ps i) w1)) ?_
    refine jl_bool (fun h16 => ?_) (fun h16 => ?_)
    ·skip
     refine jnt ?_
     refine jc_true rfl ?_
     refine jsr ?_
     refine jz ?_
     refine jz ?_
     refine jnt ?_
     refine jc_ret ?_
     refine jq_block_ret ?_
     refine jq_then_ret ?_
     refine jq_then_ret ?_
     refine jq_block_ret ?_
     refine jq_then_ret ?_
     refine jq_ret1 rfl rfl ?_
     exact fun _ hw => ⟨by rw [idx_hit hno (at0_some (by omega)) h16], hw.ch⟩
    ·skip
     refine jnt ?_
     refine jc_false rfl ?_
     refine jc_skip ?_
     refine jq_block ?_
     refine jq_then ?_
     refine jc_region ?_
     refine jy (y_add_fits rfl rfl (by simp only [fits]; omega)) ?_
     refine jz ?_
     refine jl_nil ?_
     refine jq_round (i := i) (i + 1) ?_ ?_ ?_
     ·omega
     ·exact ⟨rfl, rfl, rfl, lk_int rfl (by omega), trivial⟩
     ·exact fun _ h => ⟨⟨by omega, fun j z hj hz => (Nat.lt_succ_iff_lt_or_eq.1 hj).elim (fun h2 => hno j z h2 hz) (fun e => by subst e; rw [at0_some (by omega)] at hz; cases hz; exact h16)⟩, h⟩
    )
  ·first
   | (exfalso; omega)
   | (
    refine jnt ?_
    refine jc_seq ?_
    refine jc_false rfl ?_
    refine jc_exit ?_
    refine jq_then_exit ?_
    refine jq_then_exit ?_
    refine jq_hit ?_
    refine jq_then ?_
    refine jsr ?_
    refine jz ?_
    refine jnt ?_
    refine jc_ret ?_
    refine jq_ret1 rfl rfl ?_
    exact fun _ hw => ⟨by rw [idx_none (fun j z hj => hno j z (by omega))], hw.ch⟩
    )

theorem hasOdd_any (ad : Option Addr) (c : Nat) (ps : List ByteArray) (w : World) (hl : ps.length ≤ 1000000) (hps : Strs w ad ps) :
  Calls Try.prog 72 #[.slice ad ps.length c, .func (.func 73) #[] #[]] w fun e w' => e = .returned (.bool (ps.any oddB)) ∧ Ch [] w w' := by
 refine calls_of (n := 9) (E := [(0, .slice ad ps.length c), (1, .func (.func 73) #[] #[])]) (W := Hp w [] []) Try.func72 rfl rfl (Nat.le_of_ble_eq_true rfl) rfl (Hp.nil _ _) ?_
 refine jsr ?_
 refine jz ?_
 refine jnt ?_
 refine jsr ?_
 refine jz ?_
 refine jz ?_
 refine jpc (goes_func rfl) (fun w1 hw1 => idxOdd_any _ _ _ w1 (by omega) (hps.keep hw1)) ?_
 refine jy (y_geq rfl rfl) ?_
 refine jl_as (u := .bool (ps.any oddB)) (congrArg Value.bool (idx_any oddB ps)) ?_
 refine jz ?_
 refine jnt ?_
 refine jc_ret ?_
 refine jq_ret1 rfl rfl ?_
 exact fun _ hw => ⟨rfl, hw.ch⟩

theorem node_any (a b : ByteArray) (w : World) (ha : a.size ≤ 1000000) (hb : b.size ≤ 1000000) :
  Calls Try.prog 75 #[.string a, .string b] w fun e w' => e = .returned (.string (nodeS a b)) ∧ Ch [] w w' := by
 refine calls_of (n := 9) (E := [(0, .string a), (1, .string b)]) (W := Hp w [] []) Try.func75 rfl rfl (Nat.le_of_ble_eq_true rfl) rfl (Hp.nil _ _) ?_
 refine jsr ?_
 refine jz ?_
 refine jnt ?_
 refine jsr ?_
 refine jz ?_
 refine jz ?_
 refine jl_m rfl (by decide) rfl (m_buildSlice (by decide) (Built.cell rfl rfl rfl (by repeat constructor) (Built.cell rfl rfl rfl (by repeat constructor) Built.nil))) (fun b7 => ?_)
 refine jpc (goes_func rfl) (fun w1 hw1 => tag_any strNode (some ⟨b7, 0, none⟩) 2 [a, b] w1 (by decide) (by simp) (all2 (ha) (hb)) (Strs.of_row (hw1.get mem0))) ?_
 refine jz ?_
 refine jnt ?_
 refine jc_ret ?_
 refine jq_ret1 rfl rfl ?_
 exact fun _ hw => ⟨rfl, hw.ch⟩

theorem topped_any (h : Int) (x : ByteArray) (w : World) (hx : x.size ≤ 1000000) :
  Calls Try.prog 56 #[.int .i64 h, .string x] w fun e w' => e = .returned (.string (topS h x)) ∧ Ch [] w w' := by
 refine calls_of (n := 10) (E := [(0, .int .i64 h), (1, .string x)]) (W := Hp w [] []) Try.func56 rfl rfl (Nat.le_of_ble_eq_true rfl) rfl (Hp.nil _ _) ?_
 refine jsr ?_
 refine jz ?_
 refine jnt ?_
 refine jsr ?_
 refine jz ?_
 refine jpc (goes_func rfl) (fun w1 hw1 => mone_any _ w1) ?_
 refine jz ?_
 refine jl_m rfl (by decide) rfl (m_buildSlice (by decide) (Built.cell rfl rfl rfl (by repeat constructor) (Built.cell rfl rfl rfl (by repeat constructor) Built.nil))) (fun b8 => ?_)
 refine jpc (goes_func rfl) (fun w1 hw1 => tag_any strRoot (some ⟨b8, 0, none⟩) 2 [oneB h, x] w1 (by decide) (by simp) (all2 (by rw [oneB_size]; decide) (hx)) (Strs.of_row (hw1.get mem0))) ?_
 refine jz ?_
 refine jnt ?_
 refine jc_ret ?_
 refine jq_ret1 rfl rfl ?_
 exact fun _ hw => ⟨rfl, hw.ch⟩


def UpSpec (k : Nat) : Prop := ∀ (b4 b5 : Nat) (ad : Option Addr) (n c : Nat) (vs : List Value) (adr : Option Addr) (cr : Nat) (r : List ByteArray) (w : World), r.length = 2 ^ k → k ≤ 4 → n + k ≤ 100 → (∀ p ∈ r, p.size = 16) → Strs w adr r → (∀ b o, adr = some ⟨b, o, none⟩ → b ∉ b4 :: rowBlk ad) →
  Hp w (b4 :: rowBlk ad) [.cells b4 [.slice ad n c], .row ad n c 67 1 vs] w → CellAt w b5 0 (.func (.func 74) #[] #[.pointer (some ⟨b4, 0, none⟩), .pointer (some ⟨b5, 0, none⟩)]) → b5 ∉ b4 :: rowBlk ad →
  Calls Try.prog 74 #[.slice adr r.length cr, .pointer (some ⟨b4, 0, none⟩), .pointer (some ⟨b5, 0, none⟩)] w fun e w' => e = .returned (.tuple #[]) ∧
    ∃ q : Option Addr × Nat × List Value, Hp w (b4 :: rowBlk ad) [.cells b4 [.slice q.1 (n + k + 1) q.2.1], .row q.1 (n + k + 1) q.2.1 67 1 (vs ++ q.2.2)] w' ∧ RowVals w' q.2.2 (rowsL r k)
theorem up_step (k : Nat) (IH : ∀ k', k' < k → UpSpec k') (b4 b5 : Nat) (ad : Option Addr) (n c : Nat) (vs : List Value) (adr : Option Addr) (cr : Nat) (r : List ByteArray) (w : World) (hlen : r.length = 2 ^ k) (hk4 : k ≤ 4) (hnk : n + k ≤ 100) (hrs : ∀ p ∈ r, p.size = 16) (hps : Strs w adr r) (hdis : ∀ b o, adr = some ⟨b, o, none⟩ → b ∉ b4 :: rowBlk ad) (h0 : Hp w (b4 :: rowBlk ad) [.cells b4 [.slice ad n c], .row ad n c 67 1 vs] w) (hb5 : CellAt w b5 0 (.func (.func 74) #[] #[.pointer (some ⟨b4, 0, none⟩), .pointer (some ⟨b5, 0, none⟩)])) (hb5S : b5 ∉ b4 :: rowBlk ad) :
  Calls Try.prog 74 #[.slice adr r.length cr, .pointer (some ⟨b4, 0, none⟩), .pointer (some ⟨b5, 0, none⟩)] w fun e w' => e = .returned (.tuple #[]) ∧ ∃ q : Option Addr × Nat × List Value, Hp w (b4 :: rowBlk ad) [.cells b4 [.slice q.1 (n + k + 1) q.2.1], .row q.1 (n + k + 1) q.2.1 67 1 (vs ++ q.2.2)] w' ∧ RowVals w' q.2.2 (rowsL r k) := by
 have hp16 := pow_le16 hk4
 have hsm : ∀ j, j < r.length → (at0 r j).size ≤ 1000000 := fun j hj => by rw [hrs _ (at0_mem hj)]; decide
 refine calls_of (n := 35) (E := [(0, .slice adr r.length cr), (1, .pointer (some ⟨b4, 0, none⟩)), (2, .pointer (some ⟨b5, 0, none⟩))]) (W := Hp w (b4 :: rowBlk ad) [.cells b4 [.slice ad n c], .row ad n c 67 1 vs]) Try.func74 rfl rfl (Nat.le_of_ble_eq_true rfl) rfl h0 ?_
 refine jsr ?_
 refine jz ?_
 refine jz ?_
 refine jl_m rfl (by decide) rfl (m_buildSlice (by decide) (Built.cell rfl rfl rfl (by repeat constructor) Built.nil)) (fun b8 => ?_)
 refine jl_m2 rfl (by decide) rfl (m_append rfl rfl (by first | exact del0 | exact del1 | exact del2 | exact del3 | exact del4) (by first | exact del0 | exact del1 | exact del2 | exact del3 | exact del4) rfl (by omega) (by omega)) (fun a9 c9 => ?_)
 refine jst ?_
 refine jnt ?_
 refine jc_seq ?_
 refine jc_world (fun _ h => h.nilrow 9 1) ?_
 refine jc_region ?_
 refine jz ?_
 refine jnt ?_
 refine jc_seq ?_
 refine jsr ?_
 refine jz ?_
 refine jnt ?_
 refine jc_block ?_
 refine jc_loop3 (fun (i : Nat) (adn : Option Addr) (cn : Nat) => [(0, .slice adr r.length cr), (1, .pointer (some ⟨b4, 0, none⟩)), (2, .pointer (some ⟨b5, 0, none⟩)), (4, .slice adn i cn), (5, .int .i64 (2 * (i : Nat) + 1))]) (fun (i : Nat) (adn : Option Addr) (cn : Nat) => fun w' => i ≤ r.length / 2 ∧ Hp w ((b4 :: rowBlk ad)) [.row (adn) (i) (cn) 9 1 (((aboveL r).take i).map .string), .row a9 (n + 1) c9 67 1 (vs ++ [.slice adr r.length cr]), .cells b4 [.slice a9 (n + 1) c9]] w') (fun (i : Nat) (adn : Option Addr) (cn : Nat) => r.length / 2 - i) 0 none 0 ?_ ?_ ?_
 ·exact ⟨rfl, rfl, rfl, rfl, rfl, trivial⟩
 ·exact fun _ h => ⟨by omega, h⟩
 ·intro i adn cn
  refine jc_and (fun hi => ?_)
  refine jc_seq ?_
  refine jsr ?_
  refine jz ?_
  refine jz ?_
  refine jy (y_len_slice rfl) ?_
  refine jy (y_lss rfl rfl) ?_
  refine jl_prop (fun h13 => ?_) (fun h13 => ?_)
  ·first
   | (exfalso; omega)
   | (
    obtain ⟨bb, oo, rfl, hc⟩ := hps (2 * i) _ (at0_some (show 2 * i < (r).length by omega))
    have hc2 := strs_at' hps (at0_some (show 2 * i + 1 < r.length by omega))
    have hb0 := hdis bb oo rfl
    have hs0 := hsm (2 * i) (by omega)
    have hs1 := hsm (2 * i + 1) (by omega)
    refine jnt ?_
    refine jc_true rfl ?_
    refine jc_skip ?_
    refine jq_then ?_
    refine jc_seq ?_
    refine jc_block ?_
    refine jc_sched 12 [(0, true), (1, true), (2, true), (3, true), (4, true), (5, true), (6, true), (7, true), (8, true), (9, true), (10, false), (11, false)] rfl (by kernel_rfl) (fun _ _ _ _ h => h) (fun _ h => h.drew) ?_
    simp only [pickO, nthO, List.drop_succ_cons, List.drop_zero]
    refine jkz ?_
    refine jkz ?_
    refine jkz ?_
    refine jky (y_sub_fits rfl rfl (by simp only [fits]; omega)) ?_
    refine jky (y_indexAddr_slice (off := oo + 2 * i) rfl rfl (by omega) (by omega) (by omega)) ?_
    refine jky (y_load_old rfl hc hb0) ?_
    refine jkz ?_
    refine jkz ?_
    refine jky (y_indexAddr_slice (off := oo + (2 * i + 1)) rfl rfl (by omega) (by omega) (by omega)) ?_
    refine jky (y_load_old rfl hc2 hb0) ?_
    refine js_pcall (by intro _ h; first | exact h | exact h.pop | exact h.pop.pop | exact h.pop.pop.pop | exact h.pop.pop.pop.pop | exact h.pop.pop.pop.pop.pop | exact h.pop.pop.pop.pop.pop.pop | exact h.part .nil) rfl (by decide) rfl (goes_func rfl) (fun w1 hw1 => pcall hw1 (node_any _ _ w1 (by omega) (by omega))) ?_
    refine js_m (by intros; rename_i h; first | exact h | exact h.pop | exact h.pop.pop | exact h.pop.pop.pop | exact h.pop.pop.pop.pop | exact h.pop.pop.pop.pop.pop | exact h.pop.pop.pop.pop.pop.pop | exact h.part .nil) rfl (by decide) rfl (m_buildSlice (by decide) (Built.cell rfl rfl rfl (by repeat constructor) Built.nil)) (fun b27 => ?_)
    refine js_nil ?_
    refine jl_m2 rfl (by decide) rfl (m_append rfl rfl (by first | exact del0 | exact del1 | exact del2 | exact del3 | exact del4) (by first | exact del0 | exact del1 | exact del2 | exact del3 | exact del4) rfl (by omega) (by omega)) (fun a28 c28 => ?_)
    refine jz ?_
    refine jl_nil ?_
    refine jq_block ?_
    refine jq_then ?_
    refine jc_region ?_
    refine jz ?_
    refine jy (y_add_fits rfl rfl (by simp only [fits]; omega)) ?_
    refine jz ?_
    refine jl_nil ?_
    refine jq_round3 (i := i) (j := adn) (l := cn) (i + 1) a28 c28 ?_ ?_ ?_
    ·omega
    ·exact ⟨rfl, rfl, rfl, rfl, lk_int rfl (by omega), trivial⟩
    ·exact fun _ h => ⟨by omega, h.cast (by rw [aboveL_take (by omega), List.map_append]; rfl)⟩
    )
  ·first
   | (exfalso; omega)
   | (
    refine jnt ?_
    refine jc_false rfl ?_
    refine jc_exit ?_
    refine jq_then_exit ?_
    refine jq_then_exit ?_
    refine jq_hit ?_
    refine jq_then ?_
    refine jc_seq ?_
    have hi2 : i = r.length / 2 := by omega
    refine jc_region ?_
    refine jz ?_
    refine jy (y_len_slice rfl) ?_
    refine jy (y_gtr rfl rfl) ?_
    refine jl_prop (fun h31 => ?_) (fun h31 => ?_)
    ·first
     | (exfalso; omega)
     | (
      refine jnt ?_
      refine jc_true rfl ?_
      have hk0 : k ≠ 0 := by intro hk; subst hk; simp at hlen; omega
      have e1 : i = (aboveL r).length := by rw [aboveL_length]; exact hi2
      obtain ⟨k2, rfl⟩ : ∃ k2, k = k2 + 1 := ⟨k - 1, by omega⟩
      have hpw : r.length / 2 = 2 ^ k2 := by rw [hlen, Nat.pow_succ]; omega
      refine jc_world (fun _ h => h.cast (H' := [.row (adn) (i) (cn) 9 1 ((aboveL r).map .string), .row a9 (n + 1) c9 67 1 (vs ++ [.slice adr r.length cr]), .cells b4 [.slice a9 (n + 1) c9]]) (by rw [List.take_of_length_le (by rw [aboveL_length]; omega)])) ?_
      refine jc_region ?_
      refine jy (y_load_old rfl hb5 hb5S) ?_
      refine jz ?_
      refine jl_as (u := .slice adn (aboveL r).length cn) (by rw [← e1]) ?_
      refine jl_call (ι := Option Addr × Nat × List Value) (v := fun _ => .tuple #[]) (W' := fun q w' => Hp w ((b4 :: rowBlk ad)) [.cells b4 [.slice q.1 (n + (k2 + 1) + 1) q.2.1], .row q.1 (n + (k2 + 1) + 1) q.2.1 67 1 (vs ++ q.2.2)] w' ∧ RowVals w' q.2.2 (rowsL r (k2 + 1))) rfl (by decide) rfl (goes_value rfl rfl) (fun w1 hw1 => ?_) (fun q => ?_)
      ·have hap := hw1.apart
       simp only [List.pairwise_cons] at hap
       have hS9 : ∀ x ∈ b4 :: rowBlk a9, x ∈ (b4 :: rowBlk ad) ∨ w.heap.size ≤ x := by
        intro x hx
        rcases List.mem_cons.1 hx with rfl | hx
        ·exact .inl (.head _)
        ·obtain ⟨o, bd, rfl⟩ := rowBlk_mem hx
         exact (hw1.own _ mem1 x rfl).symm
       have hlt5 := World.block_lt_of_cell? w _ hb5
       have hrow := hw1.get (A := .row (adn) (i) (cn) 9 1 ((aboveL r).map .string)) mem0
       refine (IH k2 (by omega) b4 b5 a9 (n + 1) c9 (vs ++ [.slice adr r.length cr]) adn cn (aboveL r) w1 (by rw [aboveL_length, hpw]) (by omega) (by omega) aboveL_size (Strs.of_own hrow) ?_ ((hw1.part (.cons del2 (.cons del1 .nil))).here _ ?_) (hw1.cell hb5 hb5S) ?_).mono ?_
       ·intro b o e hm
        subst e
        rcases List.mem_cons.1 hm with rfl | hm
        ·exact hap.1 _ (.tail _ (.head _)) _ rfl rfl
        ·obtain ⟨o, bd, rfl⟩ := rowBlk_mem hm
         exact hap.1 _ (.head _) _ rfl rfl
       ·intro A hA x hx
        simp only [List.mem_cons, List.not_mem_nil, or_false] at hA
        rcases hA with rfl | rfl
        ·cases hx; exact .head _
        ·exact .tail _ (rowBlk_foot hx)
       ·intro hm
        rcases List.mem_cons.1 hm with rfl | hm
        ·exact hb5S (.head _)
        ·obtain ⟨o, bd, rfl⟩ := rowBlk_mem hm
         rcases hw1.own _ mem1 b5 rfl with h1 | h1
         ·exact absurd h1 (by have : b5 < w.heap.size := hlt5; omega)
         ·exact hb5S h1
       ·rintro e w' ⟨he, q, hq1, hq2⟩
        have hall := hw1.then hq1 hS9
        refine ⟨(q.1, q.2.1, .slice adr r.length cr :: q.2.2), he, ?_, ?_⟩
        ·rw [show n + 1 + k2 + 1 = n + (k2 + 1) + 1 by omega, List.append_assoc] at hall
         exact hall
        ·rw [rowsL_succ]
         exact hq2.cons (hall.strs hps hdis)
      refine jl_nil ?_
      refine jq_end0 rfl ?_
      exact fun w' hw => ⟨rfl, q, hw.1, hw.2⟩
      )
    ·first
     | (exfalso; omega)
     | (
      refine jnt ?_
      refine jc_false rfl ?_
      refine jc_skip ?_
      refine jq_end0 rfl ?_
      exact fun w' hw => ⟨rfl, (a9, c9, [.slice adr r.length cr]), by
       have hk0 : k = 0 := pow_one_zero (by omega)
       subst hk0
       exact ⟨hw.part (.cons del2 (.cons del1 .nil)), (show RowVals w' [] [] from fun j r h => by simp at h).cons ((hw.strs hps hdis))⟩⟩
      )
    )

theorem up_all : ∀ k, UpSpec k := fun k => Nat.strongRecOn k fun k IH b4 b5 ad n c vs adr cr r w h1 h2 h3 h4 h5 h6 h7 h8 h9 => up_step k IH b4 b5 ad n c vs adr cr r w h1 h2 h3 h4 h5 h6 h7 h8 h9
theorem rows_ok (ad : Option Addr) (c : Nat) (ps : List ByteArray) (w : World) (hl : ps.length ≤ 1000000) (hps : Strs w ad ps) (hok : okL ps) :
  Calls Try.prog 55 #[.slice ad ps.length c] w fun e w' => ∃ p : Nat × Nat, e = .returned (.slice (some ⟨p.1, 0, none⟩) (tallL ps + 1) p.2) ∧ Ch [] w w' ∧ RowsAt w' p.1 (rowsL ps (tallL ps)) ∧ tallL ps + 1 ≤ p.2 := by
 obtain ⟨hpw, ht4⟩ := okL_length hok
 have hp16 := pow_le16 ht4
 have hb := (and_pow (n := ps.length) (by omega) (by omega)).2 (by rw [Int.toNat_natCast]; exact hok.1)
 refine calls_of (n := 30) (E := [(0, .slice ad ps.length c)]) (W := Hp w [] []) Try.func55 rfl rfl (Nat.le_of_ble_eq_true rfl) rfl (Hp.nil _ _) ?_
 refine jsr ?_
 refine jz ?_
 refine jnt ?_
 refine jsr ?_
 refine jz ?_
 refine jy (y_len_slice rfl) ?_
 refine jz ?_
 refine jnt ?_
 refine jc_seq ?_
 refine jsr ?_
 refine jz ?_
 refine jy (y_lss rfl rfl) ?_
 refine jl_prop (fun h9 => ?_) (fun h9 => ?_)
 ·first
  | (exfalso; omega)
  | (
   refine jz ?_
   refine jsk ?_
   refine jsk ?_
   refine jy (y_pick_true rfl rfl) ?_
   refine jz ?_
   refine jsk ?_
   refine jsk ?_
   refine jsk ?_
   refine jsk ?_
   refine jsk ?_
   refine jy (y_pick_true rfl rfl) ?_
   refine jz ?_
   refine jsk ?_
   refine jsk ?_
   refine jy (y_pick_true rfl rfl) ?_
   refine jnt ?_
   refine jc_true rfl ?_
   refine jsr ?_
   refine jz ?_
   refine jnt ?_
   refine jc_ret ?_
   refine jq_then_ret ?_
   refine jq_ret1 rfl rfl ?_
   exact fun w' hw => by
    have hrow := hbx1.get (A := .row q.1 (tallL ps + 1) q.2.1 67 1 q.2.2) mem1
    obtain ⟨b, hb⟩ := row_some hrow (by omega)
    have hcap := row_cap hrow
    obtain ⟨q1, q2, q3⟩ := q
    simp only at hb hrow hrv hcap
    subst hb
    exact ⟨(b, q2), rfl, hbx1.ch.then hw.ch, RowsAt.keep (fun j r hr => by obtain ⟨adj, cj, h1, h2⟩ := hrv j r hr; exact ⟨adj, cj, row_cell hrow h1, h2⟩) hw, hcap⟩
   )
 ·first
  | (exfalso; omega)
  | (
   refine jz ?_
   refine jz ?_
   refine jy (y_gtr rfl rfl) ?_
   refine jl_prop (fun h12 => ?_) (fun h12 => ?_)
   ·first
    | (exfalso; omega)
    | (
     refine jy (y_pick_false rfl rfl) ?_
     refine jz ?_
     refine jsk ?_
     refine jsk ?_
     refine jsk ?_
     refine jsk ?_
     refine jsk ?_
     refine jy (y_pick_true rfl rfl) ?_
     refine jz ?_
     refine jsk ?_
     refine jsk ?_
     refine jy (y_pick_true rfl rfl) ?_
     refine jnt ?_
     refine jc_true rfl ?_
     refine jsr ?_
     refine jz ?_
     refine jnt ?_
     refine jc_ret ?_
     refine jq_then_ret ?_
     refine jq_ret1 rfl rfl ?_
     exact fun w' hw => by
      have hrow := hbx1.get (A := .row q.1 (tallL ps + 1) q.2.1 67 1 q.2.2) mem1
      obtain ⟨b, hb⟩ := row_some hrow (by omega)
      have hcap := row_cap hrow
      obtain ⟨q1, q2, q3⟩ := q
      simp only at hb hrow hrv hcap
      subst hb
      exact ⟨(b, q2), rfl, hbx1.ch.then hw.ch, RowsAt.keep (fun j r hr => by obtain ⟨adj, cj, h1, h2⟩ := hrv j r hr; exact ⟨adj, cj, row_cell hrow h1, h2⟩) hw, hcap⟩
     )
   ·first
    | (exfalso; omega)
    | (
     refine jy (y_pick_false rfl rfl) ?_
     refine jz ?_
     refine jz ?_
     refine jz ?_
     refine jy (y_sub_fits rfl rfl (by simp only [fits]; omega)) ?_
     refine jy (y_and rfl rfl) ?_
     refine jy (y_neq rfl rfl) ?_
     refine jl_prop (fun h19 => ?_) (fun h19 => ?_)
     ·first
      | (exfalso; omega)
      | (
       refine jy (y_pick_false rfl rfl) ?_
       refine jz ?_
       refine jsk ?_
       refine jsk ?_
       refine jy (y_pick_true rfl rfl) ?_
       refine jnt ?_
       refine jc_true rfl ?_
       refine jsr ?_
       refine jz ?_
       refine jnt ?_
       refine jc_ret ?_
       refine jq_then_ret ?_
       refine jq_ret1 rfl rfl ?_
       exact fun w' hw => by
        have hrow := hbx1.get (A := .row q.1 (tallL ps + 1) q.2.1 67 1 q.2.2) mem1
        obtain ⟨b, hb⟩ := row_some hrow (by omega)
        have hcap := row_cap hrow
        obtain ⟨q1, q2, q3⟩ := q
        simp only at hb hrow hrv hcap
        subst hb
        exact ⟨(b, q2), rfl, hbx1.ch.then hw.ch, RowsAt.keep (fun j r hr => by obtain ⟨adj, cj, h1, h2⟩ := hrv j r hr; exact ⟨adj, cj, row_cell hrow h1, h2⟩) hw, hcap⟩
       )
     ·first
      | (exfalso; omega)
      | (
       refine jy (y_pick_false rfl rfl) ?_
       refine jz ?_
       refine jz ?_
       refine jpc (goes_func rfl) (fun w1 hw1 => hasOdd_any _ _ _ w1 (by omega) (hps.keep hw1)) ?_
       refine jl_as (u := .bool false) (congrArg Value.bool (any_even hok.2)) ?_
       refine jy (y_pick_false rfl rfl) ?_
       refine jnt ?_
       refine jc_false rfl ?_
       refine jc_skip ?_
       refine jq_then ?_
       refine jsr ?_
       refine jl_m rfl (by decide) rfl (m_alloc) (fun b4 => ?_)
       refine jnt ?_
       refine jsr ?_
       refine jl_m rfl (by decide) rfl (m_alloc) (fun b5 => ?_)
       refine jnt ?_
       refine jsr ?_
       refine jy (y_makeFunc rfl rfl) ?_
       refine jst ?_
       refine jnt ?_
       refine jsr ?_
       refine jz ?_
       refine jz ?_
       refine jl_call (ι := Option Addr × Nat × List Value) (v := fun _ => .tuple #[]) (W' := fun q w' => Hp w [] [.cells b4 [.slice q.1 (tallL ps + 1) q.2.1], .row q.1 (tallL ps + 1) q.2.1 67 1 q.2.2] w' ∧ RowVals w' q.2.2 (rowsL ps (tallL ps))) rfl (by decide) rfl (goes_value rfl rfl) (fun w1 hw1 => ?_) (fun q => ?_)
       ·have hap := hw1.apart
        simp only [List.pairwise_cons] at hap
        have hown := hw1.own (.cells b4 [.slice none 0 0]) (by first | exact mem1 | exact mem0) b4 rfl
        have hne : b5 ≠ b4 := fun e => hap.1 _ (.head _) b5 rfl (by rw [e]; rfl)
        refine (up_all (tallL ps) b4 b5 none 0 0 [] ad c ps w1 hpw ht4 (by omega) hok.2 (hps.keep hw1) ?_ (((hw1.part (.cons del1 .nil)).here [b4] (by intro A hA x hx; simp only [List.mem_cons, List.not_mem_nil, or_false] at hA; subst hA; cases hx; simp)).nilrow 67 1 |>.perm (List.Perm.swap _ _ _)) (CellAt.of_cells (hw1.get mem0) rfl) (by simpa [rowBlk] using hne)).mono ?_
        ·intro b o e hm
         subst e
         have hm2 : b = b4 := by simpa [rowBlk] using hm
         subst hm2
         obtain ⟨bb, oo, e2, hc⟩ := hps 0 _ (at0_some (show 0 < ps.length by omega))
         cases e2
         have := World.block_lt_of_cell? w _ hc
         rcases hown with h1 | h1
         ·exact absurd h1 (by have h2 : b < w.heap.size := this; omega)
         ·cases h1
        ·rintro e w' ⟨he, q, hq1, hq2⟩
         refine ⟨q, he, ?_, hq2⟩
         have h3 := hw1.then hq1 (by intro x hx; have : x = b4 := (by simpa [rowBlk] using hx); subst this; exact hown.symm)
         rw [show 0 + tallL ps + 1 = tallL ps + 1 by omega] at h3
         exact h3
       refine jnt ?_
       refine jc_seq ?_
       refine jc_rebase (fun wx hbx => ?_)
       obtain ⟨hbx1, hrv⟩ := hbx
       have hc4 := CellAt.of_cells (hbx1.get (A := .cells b4 [.slice q.1 (tallL ps + 1) q.2.1]) mem0) (o := 0) rfl
       refine jc_region ?_
       refine jy (y_load_old rfl hc4 (by simp)) ?_
       refine jz ?_
       refine jnt ?_
       refine jc_ret ?_
       refine jq_ret1 rfl rfl ?_
       exact fun w' hw => by
        have hrow := hbx1.get (A := .row q.1 (tallL ps + 1) q.2.1 67 1 q.2.2) mem1
        obtain ⟨b, hb⟩ := row_some hrow (by omega)
        have hcap := row_cap hrow
        obtain ⟨q1, q2, q3⟩ := q
        simp only at hb hrow hrv hcap
        subst hb
        exact ⟨(b, q2), rfl, hbx1.ch.then hw.ch, RowsAt.keep (fun j r hr => by obtain ⟨adj, cj, h1, h2⟩ := hrv j r hr; exact ⟨adj, cj, row_cell hrow h1, h2⟩) hw, hcap⟩
       )
     )
   )

theorem rows_bad (ad : Option Addr) (c : Nat) (ps : List ByteArray) (w : World) (hl : ps.length ≤ 1000000) (hps : Strs w ad ps) (hbad : ¬ okL ps) :
  Calls Try.prog 55 #[.slice ad ps.length c] w fun e w' => e = .returned (.slice none 0 0) ∧ Ch [] w w' := by
 refine calls_of (n := 30) (E := [(0, .slice ad ps.length c)]) (W := Hp w [] []) Try.func55 rfl rfl (Nat.le_of_ble_eq_true rfl) rfl (Hp.nil _ _) ?_
 refine jsr ?_
 refine jz ?_
 refine jnt ?_
 refine jsr ?_
 refine jz ?_
 refine jy (y_len_slice rfl) ?_
 refine jz ?_
 refine jnt ?_
 refine jc_seq ?_
 refine jsr ?_
 refine jz ?_
 refine jy (y_lss rfl rfl) ?_
 refine jl_prop (fun h9 => ?_) (fun h9 => ?_)
 ·first
  | (exfalso; omega)
  | (
   refine jz ?_
   refine jsk ?_
   refine jsk ?_
   refine jy (y_pick_true rfl rfl) ?_
   refine jz ?_
   refine jsk ?_
   refine jsk ?_
   refine jsk ?_
   refine jsk ?_
   refine jsk ?_
   refine jy (y_pick_true rfl rfl) ?_
   refine jz ?_
   refine jsk ?_
   refine jsk ?_
   refine jy (y_pick_true rfl rfl) ?_
   refine jnt ?_
   refine jc_true rfl ?_
   refine jsr ?_
   refine jz ?_
   refine jnt ?_
   refine jc_ret ?_
   refine jq_then_ret ?_
   refine jq_ret1 rfl rfl ?_
   exact fun _ hw => ⟨rfl, hw.ch⟩
   )
 ·first
  | (exfalso; omega)
  | (
   refine jz ?_
   refine jz ?_
   refine jy (y_gtr rfl rfl) ?_
   refine jl_prop (fun h12 => ?_) (fun h12 => ?_)
   ·first
    | (exfalso; omega)
    | (
     refine jy (y_pick_false rfl rfl) ?_
     refine jz ?_
     refine jsk ?_
     refine jsk ?_
     refine jsk ?_
     refine jsk ?_
     refine jsk ?_
     refine jy (y_pick_true rfl rfl) ?_
     refine jz ?_
     refine jsk ?_
     refine jsk ?_
     refine jy (y_pick_true rfl rfl) ?_
     refine jnt ?_
     refine jc_true rfl ?_
     refine jsr ?_
     refine jz ?_
     refine jnt ?_
     refine jc_ret ?_
     refine jq_then_ret ?_
     refine jq_ret1 rfl rfl ?_
     exact fun _ hw => ⟨rfl, hw.ch⟩
     )
   ·first
    | (exfalso; omega)
    | (
     refine jy (y_pick_false rfl rfl) ?_
     refine jz ?_
     refine jz ?_
     refine jz ?_
     refine jy (y_sub_fits rfl rfl (by simp only [fits]; omega)) ?_
     refine jy (y_and rfl rfl) ?_
     refine jy (y_neq rfl rfl) ?_
     refine jl_prop (fun h19 => ?_) (fun h19 => ?_)
     ·first
      | (exfalso; omega)
      | (
       refine jy (y_pick_false rfl rfl) ?_
       refine jz ?_
       refine jsk ?_
       refine jsk ?_
       refine jy (y_pick_true rfl rfl) ?_
       refine jnt ?_
       refine jc_true rfl ?_
       refine jsr ?_
       refine jz ?_
       refine jnt ?_
       refine jc_ret ?_
       refine jq_then_ret ?_
       refine jq_ret1 rfl rfl ?_
       exact fun _ hw => ⟨rfl, hw.ch⟩
       )
     ·first
      | (exfalso; omega)
      | (
       refine jy (y_pick_false rfl rfl) ?_
       refine jz ?_
       refine jz ?_
       refine jpc (goes_func rfl) (fun w1 hw1 => hasOdd_any _ _ _ w1 (by omega) (hps.keep hw1)) ?_
       refine jl_bool (fun h23 => ?_) (fun h23 => ?_)
       ·skip
        refine jy (y_pick_false rfl rfl) ?_
        refine jnt ?_
        refine jc_true rfl ?_
        refine jsr ?_
        refine jz ?_
        refine jnt ?_
        refine jc_ret ?_
        refine jq_then_ret ?_
        refine jq_ret1 rfl rfl ?_
        exact fun _ hw => ⟨rfl, hw.ch⟩
       ·exact absurd ⟨by have := (and_pow (n := ps.length) (by omega) (by omega)).1 (by omega); rw [Int.toNat_natCast] at this; exact this, any_size h23⟩ hbad
       )
     )
   )

theorem root1_ok (ad : Option Addr) (c : Nat) (ps : List ByteArray) (w : World) (hl : ps.length ≤ 1000000) (hps : Strs w ad ps) (hok : okL ps) :
  Calls Try.prog 29 #[.slice ad ps.length c] w fun e w' => e = .returned (.tuple #[.string (rootS ps), .int .i64 (rootE ps)]) ∧ Ch [] w w' := by
 obtain ⟨hpw, ht4⟩ := okL_length hok
 have h1 := row_last hpw
 refine calls_of (n := 21) (E := [(0, .slice ad ps.length c)]) (W := Hp w [] []) Try.func29 rfl rfl (Nat.le_of_ble_eq_true rfl) rfl (Hp.nil _ _) ?_
 refine jsr ?_
 refine jz ?_
 refine jz ?_
 refine jnt ?_
 refine jsr ?_
 refine jz ?_
 refine jl_kcall rfl (by decide) rfl (goes_func rfl) (fun w1 hw1 => rows_ok _ _ _ w1 (by omega) (hps.keep hw1) hok) (fun pr wr hbr ⟨hrr, hcap⟩ => ?_)
 refine jz ?_
 refine jnt ?_
 refine jc_seq ?_
 refine jsr ?_
 refine jz ?_
 refine jy (y_eql_snil rfl rfl) ?_
 refine jl_as (u := .bool false) rfl ?_
 refine jnt ?_
 refine jc_false rfl ?_
 refine jc_skip ?_
 refine jq_then ?_
 refine jc_seq ?_
 obtain ⟨adj, cj, hcj, hsj⟩ := hrr (tallL ps) _ (rowsL_at (Nat.le_refl _))
 obtain ⟨bb, oo, rfl, hc⟩ := hsj 0 _ (at0_some (by omega))
 have hsz := rowN_size hok.2 (tallL ps) _ (at0_mem (show 0 < (rowN ps (tallL ps)).length by omega))
 refine jc_region ?_
 refine jz ?_
 refine jy (y_len_slice rfl) ?_
 refine jy (y_sub_fits rfl rfl (by simp only [fits]; omega)) ?_
 refine jl_as (u := .int .i64 ((tallL ps : Nat) : Int)) (congrArg _ (by omega)) ?_
 refine jz ?_
 refine jz ?_
 refine jy (y_len_slice rfl) ?_
 refine jy (y_sub_fits rfl rfl (by simp only [fits]; omega)) ?_
 refine jl_as (u := .int .i64 ((tallL ps : Nat) : Int)) (congrArg _ (by omega)) ?_
 refine jy (y_indexAddr_slice (off := tallL ps) rfl rfl (by omega) (by omega) (by omega)) ?_
 refine jy (y_load_old rfl hcj (by simp)) ?_
 refine jy (y_indexAddr_slice (off := oo + 0) rfl rfl (by omega) (by omega) (by omega)) ?_
 refine jy (y_load_old rfl hc (by simp)) ?_
 refine jpc (goes_func rfl) (fun w1 hw1 => topped_any _ _ w1 (by omega)) ?_
 refine jz ?_
 refine jz ?_
 refine jnt ?_
 refine jc_ret ?_
 refine jq_ret2 rfl rfl rfl ?_
 exact fun _ hw => ⟨by rw [(root_ok hok).1, (root_ok hok).2], (hbr.ch.then hw.ch)⟩

theorem root1_bad (ad : Option Addr) (c : Nat) (ps : List ByteArray) (w : World) (hl : ps.length ≤ 1000000) (hps : Strs w ad ps) (hok : ¬ okL ps) :
  Calls Try.prog 29 #[.slice ad ps.length c] w fun e w' => e = .returned (.tuple #[.string (rootS ps), .int .i64 (rootE ps)]) ∧ Ch [] w w' := by
 refine calls_of (n := 21) (E := [(0, .slice ad ps.length c)]) (W := Hp w [] []) Try.func29 rfl rfl (Nat.le_of_ble_eq_true rfl) rfl (Hp.nil _ _) ?_
 refine jsr ?_
 refine jz ?_
 refine jz ?_
 refine jnt ?_
 refine jsr ?_
 refine jz ?_
 refine jpc (goes_func rfl) (fun w1 hw1 => rows_bad _ _ _ w1 (by omega) (hps.keep hw1) hok) ?_
 refine jz ?_
 refine jnt ?_
 refine jc_seq ?_
 refine jsr ?_
 refine jz ?_
 refine jy (y_eql_snil rfl rfl) ?_
 refine jl_as (u := .bool true) rfl ?_
 refine jnt ?_
 refine jc_true rfl ?_
 refine jsr ?_
 refine jz ?_
 refine jz ?_
 refine jnt ?_
 refine jc_ret ?_
 refine jq_then_ret ?_
 refine jq_ret2 rfl rfl rfl ?_
 exact fun _ hw => ⟨by rw [(root_bad hok).1, (root_bad hok).2], hw.ch⟩

theorem root1_any (ad : Option Addr) (c : Nat) (ps : List ByteArray) (w : World) (hl : ps.length ≤ 1000000) (hps : Strs w ad ps) : Calls Try.prog 29 #[.slice ad ps.length c] w fun e w' => e = .returned (.tuple #[.string (rootS ps), .int .i64 (rootE ps)]) ∧ Ch [] w w' := by
  by_cases hok : okL ps
  · exact root1_ok ad c ps w hl hps hok
  · exact root1_bad ad c ps w hl hps hok
theorem path1_ok (ad : Option Addr) (c : Nat) (ps : List ByteArray) (w : World) (hl : ps.length ≤ 1000000) (hps : Strs w ad ps) (i : Nat) (hok : okL ps) (hi : i < ps.length) :
  Calls Try.prog 38 #[.slice ad ps.length c, .int .i64 (i : Nat)] w fun e w' => ∃ p : Option Addr × Nat, e = .returned (.tuple #[.slice p.1 (pathV ps (i : Nat)).length p.2, .int .i64 (pathE ps (i : Nat))]) ∧ Fresh w w' (.row (p.1) ((pathV ps (i : Nat)).length) (p.2) 9 1 ((pathV ps (i : Nat)).map .string)) := by
 obtain ⟨hpw, ht4⟩ := okL_length hok
 have hp16 := pow_le16 ht4
 have hpo := @path_ok ps (i : Nat) ⟨hok, by omega, by omega⟩
 rw [Int.toNat_natCast] at hpo
 refine calls_of (n := 46) (E := [(0, .slice ad ps.length c), (1, .int .i64 (i : Nat))]) (W := Hp w [] []) Try.func38 rfl rfl (Nat.le_of_ble_eq_true rfl) rfl (Hp.nil _ _) ?_
 refine jsr ?_
 refine jz ?_
 refine jz ?_
 refine jnt ?_
 refine jsr ?_
 refine jz ?_
 refine jl_kcall rfl (by decide) rfl (goes_func rfl) (fun w1 hw1 => rows_ok _ _ _ w1 (by omega) (hps.keep hw1) hok) (fun pr wr hbr ⟨hrr, hcap⟩ => ?_)
 refine jz ?_
 refine jnt ?_
 refine jc_seq ?_
 refine jsr ?_
 refine jz ?_
 refine jy (y_eql_snil rfl rfl) ?_
 refine jl_as (u := .bool false) rfl ?_
 refine jz ?_
 refine jz ?_
 refine jy (y_lss rfl rfl) ?_
 refine jl_prop (fun h16 => ?_) (fun h16 => ?_)
 ·first
  | (exfalso; omega)
  | (
   refine jy (y_pick_false rfl rfl) ?_
   refine jz ?_
   refine jsk ?_
   refine jsk ?_
   refine jsk ?_
   refine jsk ?_
   refine jy (y_pick_true rfl rfl) ?_
   refine jnt ?_
   refine jc_true rfl ?_
   refine jsr ?_
   refine jz ?_
   refine jz ?_
   refine jnt ?_
   refine jc_ret ?_
   refine jq_then_ret ?_
   refine jq_ret2 rfl rfl rfl ?_
   exact fun w' hw => by
    have e : j = tallL ps := (by omega)
    subst e
    rw [hpo.1, hpo.2, pathN_length]
    exact ⟨(adp, cp), rfl, (hbr.over hw).fresh⟩
   )
 ·first
  | (exfalso; omega)
  | (
   refine jy (y_pick_false rfl rfl) ?_
   refine jz ?_
   refine jz ?_
   refine jz ?_
   refine jy (y_len_slice rfl) ?_
   refine jy (y_geq rfl rfl) ?_
   refine jl_prop (fun h22 => ?_) (fun h22 => ?_)
   ·first
    | (exfalso; omega)
    | (
     refine jy (y_pick_false rfl rfl) ?_
     refine jnt ?_
     refine jc_true rfl ?_
     refine jsr ?_
     refine jz ?_
     refine jz ?_
     refine jnt ?_
     refine jc_ret ?_
     refine jq_then_ret ?_
     refine jq_ret2 rfl rfl rfl ?_
     exact fun w' hw => by
      have e : j = tallL ps := (by omega)
      subst e
      rw [hpo.1, hpo.2, pathN_length]
      exact ⟨(adp, cp), rfl, (hbr.over hw).fresh⟩
     )
   ·first
    | (exfalso; omega)
    | (
     refine jy (y_pick_false rfl rfl) ?_
     refine jnt ?_
     refine jc_false rfl ?_
     refine jc_skip ?_
     refine jq_then ?_
     refine jc_seq ?_
     refine jc_world (fun _ h => h.nilrow 9 1) ?_
     refine jc_region ?_
     refine jz ?_
     refine jnt ?_
     refine jc_seq ?_
     refine jsr ?_
     refine jz ?_
     refine jz ?_
     refine jy (y_len_slice rfl) ?_
     refine jy (y_sub_fits rfl rfl (by simp only [fits]; omega)) ?_
     refine jl_as (u := .int .i64 ((tallL ps : Nat) : Int)) (congrArg _ (by omega)) ?_
     refine jy (y_part_hi rfl rfl (by omega) (by omega)) ?_
     refine jl_as (u := .slice (some ⟨pr.1, 0, none⟩) (tallL ps) pr.2) (by first | rfl | (congr 1; done) | (congr 1; omega)) ?_
     refine jy (y_len_slice rfl) ?_
     refine jz ?_
     refine jnt ?_
     refine jc_block ?_
     refine jc_loop3 (fun (j : Nat) (adp : Option Addr) (cp : Nat) => [(1, .int .i64 ((i / 2 ^ j : Nat) : Int)), (7, .slice adp j cp), (28, .slice (some ⟨pr.1, 0, none⟩) (tallL ps) pr.2), (29, .int .i64 ((tallL ps : Nat) : Int)), (30, .int .i64 (j : Nat))]) (fun (j : Nat) (adp : Option Addr) (cp : Nat) => fun w' => j ≤ tallL ps ∧ Hp wr [] [.row (adp) (j) (cp) 9 1 ((pathN ps i j).map .string)] w') (fun (j : Nat) (adp : Option Addr) (cp : Nat) => tallL ps - j) 0 none 0 ?_ ?_ ?_
     ·exact ⟨lk_int rfl (by simp), rfl, rfl, rfl, rfl, trivial⟩
     ·exact fun _ h => ⟨by omega, h⟩
     ·intro j adp cp
      refine jc_and (fun hj => ?_)
      refine jsr ?_
      refine jy (y_lss rfl rfl) ?_
      refine jl_prop (fun h31 => ?_) (fun h31 => ?_)
      ·first
       | (exfalso; omega)
       | (
        obtain ⟨adj, cj, hcj, hsj⟩ := hrr j _ (rowsL_at (show j ≤ tallL ps by omega))
        have hsl := sib_lt hpw hi (show j < tallL ps by omega)
        obtain ⟨bb, oo, rfl, hc⟩ := hsj (sib (i / 2 ^ j)) _ (at0_some hsl)
        have hds := @div_small i j 16 (by omega)
        refine jnt ?_
        refine jc_seq ?_
        refine jc_true rfl ?_
        refine jc_skip ?_
        refine jq_then ?_
        refine jc_seq ?_
        refine jc_block ?_
        refine jsr ?_
        refine jy (y_indexAddr_slice (off := j) rfl rfl (by omega) (by omega) (by omega)) ?_
        refine jy (y_load_old rfl hcj (by simp)) ?_
        refine jz ?_
        refine jnt ?_
        refine jsr ?_
        refine jz ?_
        refine jz ?_
        refine jz ?_
        refine jy (y_xor rfl rfl) ?_
        refine jl_as (u := .int .i64 ((sib (i / 2 ^ j) : Nat) : Int)) (congrArg _ (xor_one hds)) ?_
        refine jy (y_indexAddr_slice (off := oo + sib (i / 2 ^ j)) rfl rfl (by omega) (by omega) (by omega)) ?_
        refine jy (y_load_old rfl hc (by simp)) ?_
        refine jl_m rfl (by decide) rfl (m_buildSlice (by decide) (Built.cell rfl rfl rfl (by repeat constructor) Built.nil)) (fun b40 => ?_)
        refine jl_m2 rfl (by decide) rfl (m_append rfl rfl (by first | exact del0 | exact del1 | exact del2 | exact del3 | exact del4) (by first | exact del0 | exact del1 | exact del2 | exact del3 | exact del4) rfl (by omega) (by omega)) (fun a41 c41 => ?_)
        refine jz ?_
        refine jnt ?_
        refine jc_region ?_
        refine jz ?_
        refine jy (y_shr_by (m := 2) rfl rfl (by decide) (by decide) (by decide)) ?_
        refine jl_as (congrArg _ (half_step i j)) ?_
        refine jz ?_
        refine jl_nil ?_
        refine jq_block ?_
        refine jq_then ?_
        refine jc_region ?_
        refine jy (y_add_fits rfl rfl (by simp only [fits]; omega)) ?_
        refine jz ?_
        refine jl_nil ?_
        refine jq_round3 (i := j) (j := adp) (l := cp) (j + 1) a41 c41 ?_ ?_ ?_
        ·omega
        ·exact ⟨rfl, rfl, rfl, rfl, lk_int rfl (by omega), trivial⟩
        ·exact fun _ h => ⟨by omega, h.cast (by rw [pathN_succ, List.map_append]; rfl)⟩
        )
      ·first
       | (exfalso; omega)
       | (
        refine jnt ?_
        refine jc_seq ?_
        refine jc_false rfl ?_
        refine jc_exit ?_
        refine jq_then_exit ?_
        refine jq_then_exit ?_
        refine jq_hit ?_
        refine jq_then ?_
        refine jsr ?_
        refine jz ?_
        refine jz ?_
        refine jz ?_
        refine jnt ?_
        refine jc_ret ?_
        refine jq_ret2 rfl rfl rfl ?_
        exact fun w' hw => by
         have e : j = tallL ps := (by omega)
         subst e
         rw [hpo.1, hpo.2, pathN_length]
         exact ⟨(adp, cp), rfl, (hbr.over hw).fresh⟩
        )
     )
   )

theorem path1_bad (ad : Option Addr) (c : Nat) (ps : List ByteArray) (w : World) (hl : ps.length ≤ 1000000) (hps : Strs w ad ps) (i : Int) (hbad : ¬ (okL ps ∧ 0 ≤ i ∧ i < ps.length)) :
  Calls Try.prog 38 #[.slice ad ps.length c, .int .i64 i] w fun e w' => e = .returned (.tuple #[.slice none 0 0, .int .i64 1]) ∧ Ch [] w w' := by
 refine calls_of (n := 46) (E := [(0, .slice ad ps.length c), (1, .int .i64 i)]) (W := Hp w [] []) Try.func38 rfl rfl (Nat.le_of_ble_eq_true rfl) rfl (Hp.nil _ _) ?_
 refine jsr ?_
 refine jz ?_
 refine jz ?_
 refine jnt ?_
 refine jsr ?_
 refine jz ?_
 refine jl_call (ι := Option Nat × Nat × Nat) (v := fun q => .slice (q.1.map fun b => ⟨b, 0, none⟩) q.2.1 q.2.2) (W' := fun q w' => (q.1 = none → ¬ okL ps) ∧ (q.1 ≠ none → okL ps) ∧ Hp w [] [] w') rfl (by decide) rfl (goes_func rfl) (fun w1 hw1 => by
  by_cases hok : okL ps
  ·exact (rows_ok _ _ _ w1 (by omega) (hps.keep hw1) hok).mono fun e w' ⟨p, he, hch, _⟩ => ⟨(some p.1, tallL ps + 1, p.2), he, fun h => (by cases h), fun _ => hok, hw1.pure hch⟩
  ·exact (rows_bad _ _ _ w1 (by omega) (hps.keep hw1) hok).mono fun e w' ⟨he, hch⟩ => ⟨(none, 0, 0), he, fun _ => hok, fun h => absurd rfl h, hw1.pure hch⟩) (fun q => ?_)
 refine jl_and (fun hq1 => ?_)
 refine jl_and (fun hq2 => ?_)
 obtain ⟨q1, q2, q3⟩ := q
 simp only at hq1 hq2
 refine jz ?_
 refine jnt ?_
 refine jc_seq ?_
 refine jsr ?_
 refine jz ?_
 refine jy (y_eql_snil rfl rfl) ?_
 refine jl_bool (fun h13 => ?_) (fun h13 => ?_)
 ·skip
  refine jz ?_
  refine jsk ?_
  refine jsk ?_
  refine jy (y_pick_true rfl rfl) ?_
  refine jz ?_
  refine jsk ?_
  refine jsk ?_
  refine jsk ?_
  refine jsk ?_
  refine jy (y_pick_true rfl rfl) ?_
  refine jnt ?_
  refine jc_true rfl ?_
  refine jsr ?_
  refine jz ?_
  refine jz ?_
  refine jnt ?_
  refine jc_ret ?_
  refine jq_then_ret ?_
  refine jq_ret2 rfl rfl rfl ?_
  exact fun _ hw => ⟨rfl, hw.ch⟩
 ·skip
  refine jz ?_
  refine jz ?_
  refine jy (y_lss rfl rfl) ?_
  refine jl_prop (fun h16 => ?_) (fun h16 => ?_)
  ·first
   | (exfalso; omega)
   | (
    refine jy (y_pick_false rfl rfl) ?_
    refine jz ?_
    refine jsk ?_
    refine jsk ?_
    refine jsk ?_
    refine jsk ?_
    refine jy (y_pick_true rfl rfl) ?_
    refine jnt ?_
    refine jc_true rfl ?_
    refine jsr ?_
    refine jz ?_
    refine jz ?_
    refine jnt ?_
    refine jc_ret ?_
    refine jq_then_ret ?_
    refine jq_ret2 rfl rfl rfl ?_
    exact fun _ hw => ⟨rfl, hw.ch⟩
    )
  ·first
   | (exfalso; omega)
   | (
    refine jy (y_pick_false rfl rfl) ?_
    refine jz ?_
    refine jz ?_
    refine jz ?_
    refine jy (y_len_slice rfl) ?_
    refine jy (y_geq rfl rfl) ?_
    refine jl_prop (fun h22 => ?_) (fun h22 => ?_)
    ·first
     | (exfalso; omega)
     | (
      refine jy (y_pick_false rfl rfl) ?_
      refine jnt ?_
      refine jc_true rfl ?_
      refine jsr ?_
      refine jz ?_
      refine jz ?_
      refine jnt ?_
      refine jc_ret ?_
      refine jq_then_ret ?_
      refine jq_ret2 rfl rfl rfl ?_
      exact fun _ hw => ⟨rfl, hw.ch⟩
      )
    ·exact absurd ⟨hq2 (fun e => by rw [e] at h13; cases h13), by omega, by omega⟩ hbad
    )

theorem path1_any (ad : Option Addr) (c : Nat) (ps : List ByteArray) (w : World) (hl : ps.length ≤ 1000000) (hps : Strs w ad ps) (i : Int) : Calls Try.prog 38 #[.slice ad ps.length c, .int .i64 i] w fun e w' => ∃ p : Option Addr × Nat, e = .returned (.tuple #[.slice p.1 (pathV ps i).length p.2, .int .i64 (pathE ps i)]) ∧ Fresh w w' (.row (p.1) ((pathV ps i).length) (p.2) 9 1 ((pathV ps i).map .string)) := by
  by_cases h : okL ps ∧ 0 ≤ i ∧ i < ps.length
  · obtain ⟨j, rfl⟩ : ∃ j : Nat, i = (j : Int) := ⟨i.toNat, by omega⟩
    exact path1_ok ad c ps w hl hps j h.1 (by omega)
  · refine (path1_bad ad c ps w hl hps i h).mono fun e w' hh => ?_
    rw [(path_bad h).1, (path_bad h).2]
    exact ⟨(none, 0), hh.1, (Hp.nilrow 9 1 (Hp.of_ch hh.2)).fresh⟩
theorem up1_ok (x : ByteArray) (i : Nat) (ad : Option Addr) (c : Nat) (ps : List ByteArray) (w : World) (hl : ps.length ≤ 1000000) (hps : Strs w ad ps) (hok : upOk x (i : Nat) ps) :
  Calls Try.prog 80 #[.string x, .int .i64 (i : Nat), .slice ad ps.length c] w fun e w' => e = .returned (.tuple #[.string (upS x (i : Nat) ps), .int .i64 (upE x (i : Nat) ps)]) ∧ Ch [] w w' := by
 obtain ⟨ho1, ho2, ho3, ho4, ho5⟩ := hok
 have hp16 := pow_le16 ho2
 refine calls_of (n := 56) (E := [(0, .string x), (1, .int .i64 (i : Nat)), (2, .slice ad ps.length c)]) (W := Hp w [] []) Try.func80 rfl rfl (Nat.le_of_ble_eq_true rfl) rfl (Hp.nil _ _) ?_
 refine jsr ?_
 refine jz ?_
 refine jz ?_
 refine jnt ?_
 refine jc_seq ?_
 refine jsr ?_
 refine jz ?_
 refine jpc (goes_func rfl) (fun w1 hw1 => odd_any _ w1) ?_
 refine jl_as (u := .bool false) (congrArg Value.bool (oddB_no ho1)) ?_
 refine jz ?_
 refine jz ?_
 refine jy (y_len_slice rfl) ?_
 refine jy (y_gtr rfl rfl) ?_
 refine jl_prop (fun h16 => ?_) (fun h16 => ?_)
 ·first
  | (exfalso; omega)
  | (
   refine jy (y_pick_false rfl rfl) ?_
   refine jz ?_
   refine jsk ?_
   refine jsk ?_
   refine jy (y_pick_true rfl rfl) ?_
   refine jz ?_
   refine jsk ?_
   refine jsk ?_
   refine jy (y_pick_true rfl rfl) ?_
   refine jz ?_
   refine jsk ?_
   refine jsk ?_
   refine jsk ?_
   refine jsk ?_
   refine jsk ?_
   refine jy (y_pick_true rfl rfl) ?_
   refine jnt ?_
   refine jc_true rfl ?_
   refine jsr ?_
   refine jz ?_
   refine jz ?_
   refine jnt ?_
   refine jc_ret ?_
   refine jq_then_ret ?_
   refine jq_ret2 rfl rfl rfl ?_
   exact fun _ hw => ⟨by rw [(up_ok ⟨ho1, ho2, ho3, ho4, ho5⟩).1, (up_ok ⟨ho1, ho2, ho3, ho4, ho5⟩).2, Int.toNat_natCast], hw.ch⟩
   )
 ·first
  | (exfalso; omega)
  | (
   refine jy (y_pick_false rfl rfl) ?_
   refine jz ?_
   refine jz ?_
   refine jpc (goes_func rfl) (fun w1 hw1 => hasOdd_any _ _ _ w1 (by omega) (hps.keep hw1)) ?_
   refine jl_as (u := .bool false) (congrArg Value.bool (any_even ho3)) ?_
   refine jy (y_pick_false rfl rfl) ?_
   refine jz ?_
   refine jz ?_
   refine jy (y_lss rfl rfl) ?_
   refine jl_prop (fun h24 => ?_) (fun h24 => ?_)
   ·first
    | (exfalso; omega)
    | (
     refine jy (y_pick_false rfl rfl) ?_
     refine jz ?_
     refine jsk ?_
     refine jsk ?_
     refine jsk ?_
     refine jsk ?_
     refine jsk ?_
     refine jy (y_pick_true rfl rfl) ?_
     refine jnt ?_
     refine jc_true rfl ?_
     refine jsr ?_
     refine jz ?_
     refine jz ?_
     refine jnt ?_
     refine jc_ret ?_
     refine jq_then_ret ?_
     refine jq_ret2 rfl rfl rfl ?_
     exact fun _ hw => ⟨by rw [(up_ok ⟨ho1, ho2, ho3, ho4, ho5⟩).1, (up_ok ⟨ho1, ho2, ho3, ho4, ho5⟩).2, Int.toNat_natCast], hw.ch⟩
     )
   ·first
    | (exfalso; omega)
    | (
     refine jy (y_pick_false rfl rfl) ?_
     refine jz ?_
     refine jz ?_
     refine jz ?_
     refine jy (y_len_slice rfl) ?_
     refine jy (y_shl_fits (p := 1) (q := ((ps.length : Nat) : Int)) rfl rfl (by omega) (by simp only [IntKind.bits]; omega) (by rw [pow_two]; simp only [fits]; omega)) ?_
     refine jl_as (u := .int .i64 ((2 ^ ps.length : Nat) : Int)) (congrArg _ pow_two) ?_
     refine jy (y_geq rfl rfl) ?_
     refine jl_prop (fun h31 => ?_) (fun h31 => ?_)
     ·first
      | (exfalso; omega)
      | (
       refine jy (y_pick_false rfl rfl) ?_
       refine jnt ?_
       refine jc_true rfl ?_
       refine jsr ?_
       refine jz ?_
       refine jz ?_
       refine jnt ?_
       refine jc_ret ?_
       refine jq_then_ret ?_
       refine jq_ret2 rfl rfl rfl ?_
       exact fun _ hw => ⟨by rw [(up_ok ⟨ho1, ho2, ho3, ho4, ho5⟩).1, (up_ok ⟨ho1, ho2, ho3, ho4, ho5⟩).2, Int.toNat_natCast], hw.ch⟩
       )
     ·first
      | (exfalso; omega)
      | (
       refine jy (y_pick_false rfl rfl) ?_
       refine jnt ?_
       refine jc_false rfl ?_
       refine jc_skip ?_
       refine jq_then ?_
       refine jsr ?_
       refine jz ?_
       refine jz ?_
       refine jnt ?_
       refine jc_seq ?_
       refine jsr ?_
       refine jz ?_
       refine jy (y_len_slice rfl) ?_
       refine jz ?_
       refine jnt ?_
       refine jc_block ?_
       refine jc_loop (fun (k : Nat) => [(1, .int .i64 ((i / 2 ^ k : Nat) : Int)), (2, .slice ad ps.length c), (8, .string (upK x i ps k)), (34, .slice ad ps.length c), (35, .int .i64 ps.length), (36, .int .i64 (k : Nat))]) (fun (k : Nat) => fun w' => k ≤ ps.length ∧ Hp w [] [] w') (fun (k : Nat) => ps.length - k) 0 ?_ ?_ ?_
       ·exact ⟨lk_int rfl (by simp), rfl, rfl, rfl, rfl, rfl, trivial⟩
       ·exact fun _ h => ⟨by omega, h⟩
       ·intro k
        refine jc_and (fun hk => ?_)
        refine jsr ?_
        refine jy (y_lss rfl rfl) ?_
        refine jl_prop (fun h37 => ?_) (fun h37 => ?_)
        ·first
         | (exfalso; omega)
         | (
          obtain ⟨bb, oo, rfl, hc⟩ := hps (k) _ (at0_some (show k < (ps).length by omega))
          have hs0 := ho3 _ (at0_mem (show k < ps.length by omega))
          have hs1 := upK_size ho1 i ps k
          have hds := @div_small i k 16 (by omega)
          refine jnt ?_
          refine jc_seq ?_
          refine jc_true rfl ?_
          refine jc_skip ?_
          refine jq_then ?_
          refine jc_seq ?_
          refine jc_block ?_
          refine jsr ?_
          refine jy (y_indexAddr_slice (off := oo + k) rfl rfl (by omega) (by omega) (by omega)) ?_
          refine jy (y_load_old rfl hc (by simp)) ?_
          refine jz ?_
          refine jnt ?_
          refine jc_seq ?_
          refine jsr ?_
          refine jz ?_
          refine jy (y_and rfl rfl) ?_
          refine jl_as (u := .int .i64 ((i / 2 ^ k % 2 : Nat) : Int)) (congrArg _ (and_two hds)) ?_
          refine jy (y_eql rfl rfl) ?_
          refine jl_prop (fun h42 => ?_) (fun h42 => ?_)
          ·first
           | (exfalso; omega)
           | (
            refine jnt ?_
            refine jc_true rfl ?_
            refine jc_region ?_
            refine jz ?_
            refine jz ?_
            refine jpc (goes_func rfl) (fun w1 hw1 => node_any _ _ w1 (by omega) (by omega)) ?_
            refine jl_as (u := .string (upK x i ps (k + 1))) (congrArg Value.string (by rw [upK, if_pos (by omega)])) ?_
            refine jz ?_
            refine jnt ?_
            refine jc_region ?_
            refine jz ?_
            refine jy (y_shr_by (m := 2) rfl rfl (by decide) (by decide) (by decide)) ?_
            refine jl_as (congrArg _ (half_step i k)) ?_
            refine jz ?_
            refine jl_nil ?_
            refine jq_block ?_
            refine jq_then ?_
            refine jc_region ?_
            refine jy (y_add_fits rfl rfl (by simp only [fits]; omega)) ?_
            refine jz ?_
            refine jl_nil ?_
            refine jq_round (i := k) (k + 1) ?_ ?_ ?_
            ·omega
            ·exact ⟨rfl, rfl, rfl, rfl, rfl, lk_int rfl (by omega), trivial⟩
            ·exact fun _ h => ⟨by omega, h⟩
            )
          ·first
           | (exfalso; omega)
           | (
            refine jnt ?_
            refine jc_false rfl ?_
            refine jc_region ?_
            refine jz ?_
            refine jz ?_
            refine jpc (goes_func rfl) (fun w1 hw1 => node_any _ _ w1 (by omega) (by omega)) ?_
            refine jl_as (u := .string (upK x i ps (k + 1))) (congrArg Value.string (by rw [upK, if_neg (by omega)])) ?_
            refine jz ?_
            refine jnt ?_
            refine jc_region ?_
            refine jz ?_
            refine jy (y_shr_by (m := 2) rfl rfl (by decide) (by decide) (by decide)) ?_
            refine jl_as (congrArg _ (half_step i k)) ?_
            refine jz ?_
            refine jl_nil ?_
            refine jq_block ?_
            refine jq_then ?_
            refine jc_region ?_
            refine jy (y_add_fits rfl rfl (by simp only [fits]; omega)) ?_
            refine jz ?_
            refine jl_nil ?_
            refine jq_round (i := k) (k + 1) ?_ ?_ ?_
            ·omega
            ·exact ⟨rfl, rfl, rfl, rfl, rfl, lk_int rfl (by omega), trivial⟩
            ·exact fun _ h => ⟨by omega, h⟩
            )
          )
        ·first
         | (exfalso; omega)
         | (
          refine jnt ?_
          refine jc_seq ?_
          refine jc_false rfl ?_
          refine jc_exit ?_
          refine jq_then_exit ?_
          refine jq_then_exit ?_
          refine jq_hit ?_
          refine jq_then ?_
          refine jc_seq ?_
          have hs1 := upK_size ho1 i ps k
          have hk2 : k = ps.length := by omega
          subst hk2
          refine jc_region ?_
          refine jz ?_
          refine jy (y_len_slice rfl) ?_
          refine jz ?_
          refine jpc (goes_func rfl) (fun w1 hw1 => topped_any _ _ w1 (by omega)) ?_
          refine jz ?_
          refine jz ?_
          refine jnt ?_
          refine jc_ret ?_
          refine jq_ret2 rfl rfl rfl ?_
          exact fun _ hw => ⟨by rw [(up_ok ⟨ho1, ho2, ho3, ho4, ho5⟩).1, (up_ok ⟨ho1, ho2, ho3, ho4, ho5⟩).2, Int.toNat_natCast], hw.ch⟩
          )
       )
     )
   )

theorem up1_bad (x : ByteArray) (i : Int) (ad : Option Addr) (c : Nat) (ps : List ByteArray) (w : World) (hl : ps.length ≤ 1000000) (hps : Strs w ad ps) (hok : ¬ upOk x i ps) :
  Calls Try.prog 80 #[.string x, .int .i64 i, .slice ad ps.length c] w fun e w' => e = .returned (.tuple #[.string ⟨#[]⟩, .int .i64 1]) ∧ Ch [] w w' := by
 refine calls_of (n := 56) (E := [(0, .string x), (1, .int .i64 i), (2, .slice ad ps.length c)]) (W := Hp w [] []) Try.func80 rfl rfl (Nat.le_of_ble_eq_true rfl) rfl (Hp.nil _ _) ?_
 refine jsr ?_
 refine jz ?_
 refine jz ?_
 refine jnt ?_
 refine jc_seq ?_
 refine jsr ?_
 refine jz ?_
 refine jpc (goes_func rfl) (fun w1 hw1 => odd_any _ w1) ?_
 refine jl_bool (fun h12 => ?_) (fun h12 => ?_)
 ·skip
  refine jz ?_
  refine jsk ?_
  refine jsk ?_
  refine jsk ?_
  refine jy (y_pick_true rfl rfl) ?_
  refine jz ?_
  refine jsk ?_
  refine jsk ?_
  refine jy (y_pick_true rfl rfl) ?_
  refine jz ?_
  refine jsk ?_
  refine jsk ?_
  refine jy (y_pick_true rfl rfl) ?_
  refine jz ?_
  refine jsk ?_
  refine jsk ?_
  refine jsk ?_
  refine jsk ?_
  refine jsk ?_
  refine jy (y_pick_true rfl rfl) ?_
  refine jnt ?_
  refine jc_true rfl ?_
  refine jsr ?_
  refine jz ?_
  refine jz ?_
  refine jnt ?_
  refine jc_ret ?_
  refine jq_then_ret ?_
  refine jq_ret2 rfl rfl rfl ?_
  exact fun _ hw => ⟨rfl, hw.ch⟩
 ·skip
  refine jz ?_
  refine jz ?_
  refine jy (y_len_slice rfl) ?_
  refine jy (y_gtr rfl rfl) ?_
  refine jl_prop (fun h16 => ?_) (fun h16 => ?_)
  ·first
   | (exfalso; omega)
   | (
    refine jy (y_pick_false rfl rfl) ?_
    refine jz ?_
    refine jsk ?_
    refine jsk ?_
    refine jy (y_pick_true rfl rfl) ?_
    refine jz ?_
    refine jsk ?_
    refine jsk ?_
    refine jy (y_pick_true rfl rfl) ?_
    refine jz ?_
    refine jsk ?_
    refine jsk ?_
    refine jsk ?_
    refine jsk ?_
    refine jsk ?_
    refine jy (y_pick_true rfl rfl) ?_
    refine jnt ?_
    refine jc_true rfl ?_
    refine jsr ?_
    refine jz ?_
    refine jz ?_
    refine jnt ?_
    refine jc_ret ?_
    refine jq_then_ret ?_
    refine jq_ret2 rfl rfl rfl ?_
    exact fun _ hw => ⟨rfl, hw.ch⟩
    )
  ·first
   | (exfalso; omega)
   | (
    refine jy (y_pick_false rfl rfl) ?_
    refine jz ?_
    refine jz ?_
    refine jpc (goes_func rfl) (fun w1 hw1 => hasOdd_any _ _ _ w1 (by omega) (hps.keep hw1)) ?_
    refine jl_bool (fun h20 => ?_) (fun h20 => ?_)
    ·skip
     refine jy (y_pick_false rfl rfl) ?_
     refine jz ?_
     refine jsk ?_
     refine jsk ?_
     refine jy (y_pick_true rfl rfl) ?_
     refine jz ?_
     refine jsk ?_
     refine jsk ?_
     refine jsk ?_
     refine jsk ?_
     refine jsk ?_
     refine jy (y_pick_true rfl rfl) ?_
     refine jnt ?_
     refine jc_true rfl ?_
     refine jsr ?_
     refine jz ?_
     refine jz ?_
     refine jnt ?_
     refine jc_ret ?_
     refine jq_then_ret ?_
     refine jq_ret2 rfl rfl rfl ?_
     exact fun _ hw => ⟨rfl, hw.ch⟩
    ·skip
     refine jy (y_pick_false rfl rfl) ?_
     refine jz ?_
     refine jz ?_
     refine jy (y_lss rfl rfl) ?_
     refine jl_prop (fun h24 => ?_) (fun h24 => ?_)
     ·first
      | (exfalso; omega)
      | (
       refine jy (y_pick_false rfl rfl) ?_
       refine jz ?_
       refine jsk ?_
       refine jsk ?_
       refine jsk ?_
       refine jsk ?_
       refine jsk ?_
       refine jy (y_pick_true rfl rfl) ?_
       refine jnt ?_
       refine jc_true rfl ?_
       refine jsr ?_
       refine jz ?_
       refine jz ?_
       refine jnt ?_
       refine jc_ret ?_
       refine jq_then_ret ?_
       refine jq_ret2 rfl rfl rfl ?_
       exact fun _ hw => ⟨rfl, hw.ch⟩
       )
     ·first
      | (exfalso; omega)
      | (
       have hp16 := @pow_le16 ps.length (by omega)
       refine jy (y_pick_false rfl rfl) ?_
       refine jz ?_
       refine jz ?_
       refine jz ?_
       refine jy (y_len_slice rfl) ?_
       refine jy (y_shl_fits (p := 1) (q := ((ps.length : Nat) : Int)) rfl rfl (by omega) (by simp only [IntKind.bits]; omega) (by rw [pow_two]; simp only [fits]; omega)) ?_
       refine jl_as (u := .int .i64 ((2 ^ ps.length : Nat) : Int)) (congrArg _ pow_two) ?_
       refine jy (y_geq rfl rfl) ?_
       refine jl_prop (fun h31 => ?_) (fun h31 => ?_)
       ·first
        | (exfalso; omega)
        | (
         refine jy (y_pick_false rfl rfl) ?_
         refine jnt ?_
         refine jc_true rfl ?_
         refine jsr ?_
         refine jz ?_
         refine jz ?_
         refine jnt ?_
         refine jc_ret ?_
         refine jq_then_ret ?_
         refine jq_ret2 rfl rfl rfl ?_
         exact fun _ hw => ⟨rfl, hw.ch⟩
         )
       ·exact absurd ⟨oddB_size h12, by omega, any_size h20, by omega, by omega⟩ hok
       )
    )

theorem up1_any (x : ByteArray) (i : Int) (ad : Option Addr) (c : Nat) (ps : List ByteArray) (w : World) (hl : ps.length ≤ 1000000) (hps : Strs w ad ps) : Calls Try.prog 80 #[.string x, .int .i64 i, .slice ad ps.length c] w fun e w' => e = .returned (.tuple #[.string (upS x i ps), .int .i64 (upE x i ps)]) ∧ Ch [] w w' := by
  by_cases h : upOk x i ps
  · obtain ⟨j, rfl⟩ : ∃ j : Nat, i = (j : Int) := ⟨i.toNat, by have := h.2.2.2.1; omega⟩
    exact up1_ok x j ad c ps w hl hps h
  · refine (up1_bad x i ad c ps w hl hps h).mono fun e w' hh => ?_
    rw [(up_bad h).1, (up_bad h).2]
    exact hh
end Go.Proofs.Ytghomncegjamfaa

namespace Go.Proofs.Ytghomncegjamfaa
open Go.RowKit
set_option maxRecDepth 100000
set_option linter.unusedVariables false
set_option linter.unusedSimpArgs false
attribute [local irreducible] Yields Makes Writes
/-- A key lies there, in none of the blocks that may be written, but its counter. -/
def KeyAt (w : World) (S : List Nat) (bk bc : Nat) (seed : ByteArray) (h : Nat) : Prop := bk ∉ S ∧ CellAt w bk 0 (.pointer (some ⟨bc, 0, none⟩)) ∧ CellAt w bk 1 (.string seed) ∧ CellAt w bk 3 (.string (rootK seed h)) ∧ ∃ adl cl, CellAt w bk 2 (.slice adl (leavesS seed h).length cl) ∧ Strs w adl (leavesS seed h) ∧ ∀ b o, adl = some ⟨b, o, none⟩ → b ∉ S
theorem KeyAt.keep {w w1 : World} {S : List Nat} {H : List HA} {bk bc h : Nat} {seed : ByteArray} (hk : KeyAt w S bk bc seed h) (hw : Hp w S H w1) : KeyAt w1 S bk bc seed h :=
  let ⟨h0, h1, h2, h3, adl, cl, h4, h5, h6⟩ := hk; ⟨h0, hw.cell h1 h0, hw.cell h2 h0, hw.cell h3 h0, adl, cl, hw.cell h4 h0, hw.strs h5 h6, h6⟩
theorem KeyAt.ch {w w1 : World} {S : List Nat} {bk bc h : Nat} {seed : ByteArray} (hk : KeyAt w S bk bc seed h) (hw : Ch [] w w1) : KeyAt w1 S bk bc seed h :=
  let ⟨h0, h1, h2, h3, adl, cl, h4, h5, h6⟩ := hk; ⟨h0, h1.ch hw, h2.ch hw, h3.ch hw, adl, cl, h4.ch hw, h5.ch hw, h6⟩
theorem KeyAt.less {w : World} {S : List Nat} {bk bc h : Nat} {seed : ByteArray} (hk : KeyAt w S bk bc seed h) (T : List Nat) (hT : ∀ k ∈ T, k ∈ S) : KeyAt w T bk bc seed h :=
  let ⟨h0, h1, h2, h3, adl, cl, h4, h5, h6⟩ := hk; ⟨fun hm => h0 (hT _ hm), h1, h2, h3, adl, cl, h4, h5, fun b o e hm => h6 b o e (hT _ hm)⟩
theorem KeyAt.grow {w wp w1 : World} {S : List Nat} {H : List HA} {bk bc h : Nat} {seed : ByteArray} {A : HA} {b : Nat} (hk : KeyAt w S bk bc seed h) (hp : Hp w S H wp) (hn : Fresh wp w1 A) (hA : A.foot = some b) : KeyAt w1 (b :: S) bk bc seed h := by
  have hsz := hp.ch.size
  have hb := hn.2.2 b hA
  have hlt := World.block_lt_of_cell? w _ hk.2.1
  obtain ⟨h0, h1, h2, h3, adl, cl, h4, h5, h6⟩ := (hk.keep hp).ch hn.1
  refine ⟨fun hm => ?_, h1, h2, h3, adl, cl, h4, h5, fun k o e hm => ?_⟩
  · rcases List.mem_cons.1 hm with e | hm
    · have : bk < w.heap.size := hlt; omega
    · exact h0 hm
  · rcases List.mem_cons.1 hm with e2 | hm
    · subst e
      obtain ⟨h0', _, _, _, adl', cl', h4', h5', h6'⟩ := hk
      have hc4 := (hp.cell h4' h0')
      have hc5 : CellAt w1 bk 2 (.slice adl' (leavesS seed h).length cl') := (show CellAt wp bk 2 _ from hc4).ch hn.1
      have e3 : some (Value.slice adl' (leavesS seed h).length cl') = some (.slice (some ⟨k, o, none⟩) (leavesS seed h).length cl) := hc5.symm.trans h4
      have e4 : adl' = some ⟨k, o, none⟩ := by injection e3 with e3; injection e3
      subst e4
      have := h5'.block_lt (by rw [leavesS_length]; exact Nat.two_pow_pos h)
      omega
    · exact h6 k o e hm

theorem seeded_any (seed : ByteArray) (i : Int) (w : World) (hs : seed.size ≤ 1000000) :
  Calls Try.prog 28 #[.string seed, .int .i64 i] w fun e w' => e = .returned (.string (seededS seed i)) ∧ Ch [] w w' := by
 refine calls_of (n := 10) (E := [(0, .string seed), (1, .int .i64 i)]) (W := Hp w [] []) Try.func28 rfl rfl (Nat.le_of_ble_eq_true rfl) rfl (Hp.nil _ _) ?_
 refine jsr ?_
 refine jz ?_
 refine jnt ?_
 refine jsr ?_
 refine jz ?_
 refine jz ?_
 refine jpc (goes_func rfl) (fun w1 hw1 => mone_any _ w1) ?_
 refine jl_m rfl (by decide) rfl (m_buildSlice (by decide) (Built.cell rfl rfl rfl (by repeat constructor) (Built.cell rfl rfl rfl (by repeat constructor) Built.nil))) (fun b8 => ?_)
 refine jpc (goes_func rfl) (fun w1 hw1 => tag_any strLeaf (some ⟨b8, 0, none⟩) 2 [seed, oneB i] w1 (by decide) (by simp) (all2 (hs) (by rw [oneB_size]; decide)) (Strs.of_row (hw1.get mem0))) ?_
 refine jz ?_
 refine jnt ?_
 refine jc_ret ?_
 refine jq_ret1 rfl rfl ?_
 exact fun _ hw => ⟨rfl, hw.ch⟩

theorem about_any (root : ByteArray) (i : Int) (msg : ByteArray) (w : World) (hr : root.size ≤ 1000000) (hm : msg.size ≤ 1000000) :
  Calls Try.prog 37 #[.string root, .int .i64 i, .string msg] w fun e w' => e = .returned (.string (aboutS root i msg)) ∧ Ch [] w w' := by
 refine calls_of (n := 13) (E := [(0, .string root), (1, .int .i64 i), (2, .string msg)]) (W := Hp w [] []) Try.func37 rfl rfl (Nat.le_of_ble_eq_true rfl) rfl (Hp.nil _ _) ?_
 refine jsr ?_
 refine jz ?_
 refine jnt ?_
 refine jsr ?_
 refine jz ?_
 refine jz ?_
 refine jpc (goes_func rfl) (fun w1 hw1 => mone_any _ w1) ?_
 refine jy (y_concat rfl rfl (by simp only [ByteArray.size_append, oneB_size]; omega)) ?_
 refine jz ?_
 refine jy (y_concat rfl rfl (by simp only [ByteArray.size_append, oneB_size]; omega)) ?_
 refine jz ?_
 refine jnt ?_
 refine jc_ret ?_
 refine jq_ret1 rfl rfl ?_
 exact fun _ hw => ⟨rfl, hw.ch⟩

theorem mnew_ok (seed : ByteArray) (h : Nat) (w : World) (hs : seed.size ≤ 1000000) (hh : h ≤ 4) :
  Calls Try.prog 7 #[.string seed, .int .i64 (h : Nat)] w fun e w' => ∃ b : Nat × Nat, e = .returned (.tuple #[.pointer (some ⟨b.1, 0, none⟩), .int .i64 0]) ∧ Fresh w w' (.cells b.2 [.int .i64 0, .int .i64 ((2 ^ h : Nat) : Int)]) ∧ ∀ S : List Nat, (∀ k ∈ S, k < w.heap.size) → KeyAt w' (b.2 :: S) b.1 b.2 seed h := by
 have hp16 := pow_le16 hh
 refine calls_of (n := 57) (E := [(0, .string seed), (1, .int .i64 (h : Nat))]) (W := Hp w [] []) Try.func7 rfl rfl (Nat.le_of_ble_eq_true rfl) rfl (Hp.nil _ _) ?_
 refine jsr ?_
 refine jz ?_
 refine jz ?_
 refine jnt ?_
 refine jc_seq ?_
 refine jsr ?_
 refine jz ?_
 refine jy (y_lss rfl rfl) ?_
 refine jl_prop (fun h9 => ?_) (fun h9 => ?_)
 ·first
  | (exfalso; omega)
  | (
   refine jz ?_
   refine jsk ?_
   refine jsk ?_
   refine jy (y_pick_true rfl rfl) ?_
   refine jnt ?_
   refine jc_true rfl ?_
   refine jsr ?_
   refine jz ?_
   refine jz ?_
   refine jnt ?_
   refine jc_ret ?_
   refine jq_then_ret ?_
   refine jq_ret2 rfl rfl rfl ?_
   exact fun w' hw => by
    have hrow := hw.get (A := .row (adl) (2 ^ h) (cl) 9 1 ((leavesS seed h).map .string)) mem0
    have hkey : Cells w' b20 [.pointer (some ⟨b17, 0, none⟩), .string seed, .slice adl (2 ^ h) cl, .string (rootK seed h)] := hw.get mem1
    have hap := hw.apart
    simp only [List.pairwise_cons] at hap
    refine ⟨(b20, b17), rfl, (hw.part (.cons del2 .nil)).fresh, fun S hS => ⟨?_, hkey.cell 0, hkey.cell 1, hkey.cell 3, adl, cl, by rw [leavesS_length]; exact hkey.cell 2, Strs.of_own hrow, ?_⟩⟩
    ·intro hm
     rcases List.mem_cons.1 hm with e | hm
     ·have e2 : b20 = b17 := e
      exact hap.2.1 _ (.head _) b20 rfl (by rw [e2]; rfl)
     ·rcases hw.own _ mem1 b20 rfl with h1 | h1
      ·have := hS _ hm; omega
      ·cases h1
    ·intro b o e hm
     subst e
     rcases List.mem_cons.1 hm with e | hm
     ·have e2 : b = b17 := e
      exact hap.1 _ (.tail _ (.head _)) b rfl (by rw [e2]; rfl)
     ·rcases hw.own _ mem0 b rfl with h1 | h1
      ·have := hS _ hm; omega
      ·cases h1
   )
 ·first
  | (exfalso; omega)
  | (
   refine jz ?_
   refine jz ?_
   refine jy (y_gtr rfl rfl) ?_
   refine jl_prop (fun h12 => ?_) (fun h12 => ?_)
   ·first
    | (exfalso; omega)
    | (
     refine jy (y_pick_false rfl rfl) ?_
     refine jnt ?_
     refine jc_true rfl ?_
     refine jsr ?_
     refine jz ?_
     refine jz ?_
     refine jnt ?_
     refine jc_ret ?_
     refine jq_then_ret ?_
     refine jq_ret2 rfl rfl rfl ?_
     exact fun w' hw => by
      have hrow := hw.get (A := .row (adl) (2 ^ h) (cl) 9 1 ((leavesS seed h).map .string)) mem0
      have hkey : Cells w' b20 [.pointer (some ⟨b17, 0, none⟩), .string seed, .slice adl (2 ^ h) cl, .string (rootK seed h)] := hw.get mem1
      have hap := hw.apart
      simp only [List.pairwise_cons] at hap
      refine ⟨(b20, b17), rfl, (hw.part (.cons del2 .nil)).fresh, fun S hS => ⟨?_, hkey.cell 0, hkey.cell 1, hkey.cell 3, adl, cl, by rw [leavesS_length]; exact hkey.cell 2, Strs.of_own hrow, ?_⟩⟩
      ·intro hm
       rcases List.mem_cons.1 hm with e | hm
       ·have e2 : b20 = b17 := e
        exact hap.2.1 _ (.head _) b20 rfl (by rw [e2]; rfl)
       ·rcases hw.own _ mem1 b20 rfl with h1 | h1
        ·have := hS _ hm; omega
        ·cases h1
      ·intro b o e hm
       subst e
       rcases List.mem_cons.1 hm with e | hm
       ·have e2 : b = b17 := e
        exact hap.1 _ (.tail _ (.head _)) b rfl (by rw [e2]; rfl)
       ·rcases hw.own _ mem0 b rfl with h1 | h1
        ·have := hS _ hm; omega
        ·cases h1
     )
   ·first
    | (exfalso; omega)
    | (
     refine jy (y_pick_false rfl rfl) ?_
     refine jnt ?_
     refine jc_false rfl ?_
     refine jc_skip ?_
     refine jq_then ?_
     refine jsr ?_
     refine jz ?_
     refine jy (y_shl_fits (p := 1) (q := ((h : Nat) : Int)) rfl rfl (by omega) (by simp only [IntKind.bits]; omega) (by rw [pow_two]; simp only [fits]; omega)) ?_
     refine jl_as (u := .int .i64 ((2 ^ h : Nat) : Int)) (congrArg _ pow_two) ?_
     refine jy (y_build (Built.cell rfl rfl rfl (by repeat constructor) Built.nil)) ?_
     refine jl_m rfl (by decide) rfl (m_box rfl rfl) (fun b17 => ?_)
     refine jz ?_
     refine jy (y_build (Built.cell rfl rfl rfl (by repeat constructor) (Built.cell rfl rfl rfl (by repeat constructor) Built.nil))) ?_
     refine jl_m rfl (by decide) rfl (m_box rfl rfl) (fun b20 => ?_)
     refine jz ?_
     refine jnt ?_
     refine jc_seq ?_
     refine jc_seq ?_
     refine jc_world (fun _ h => h.nilrow 9 1) ?_
     refine jc_region ?_
     refine jz ?_
     refine jz ?_
     refine jz ?_
     refine jz ?_
     refine jz ?_
     refine jz ?_
     refine jz ?_
     refine jz ?_
     refine jnt ?_
     refine jc_block ?_
     refine jc_loop3 (fun (i : Nat) (adl : Option Addr) (cl : Nat) => [(0, .string seed), (6, .pointer (some ⟨b20, 0, none⟩)), (27, .int .i64 ((2 ^ h : Nat) : Int)), (28, .int .i64 (i : Nat))]) (fun (i : Nat) (adl : Option Addr) (cl : Nat) => fun w' => i ≤ 2 ^ h ∧ Hp w [] [.row (adl) (i) (cl) 9 1 ((leavesN seed (i)).map .string), .cells b20 [.pointer (some ⟨b17, 0, none⟩), .string seed, .slice adl (i) cl, .string ⟨#[]⟩], .cells b17 [.int .i64 0, .int .i64 ((2 ^ h : Nat) : Int)]] w') (fun (i : Nat) (adl : Option Addr) (cl : Nat) => 2 ^ h - i) 0 none 0 ?_ ?_ ?_
     ·exact ⟨rfl, rfl, rfl, rfl, trivial⟩
     ·exact fun _ h => ⟨by omega, h⟩
     ·intro i adl cl
      refine jc_and (fun hi => ?_)
      refine jsr ?_
      refine jy (y_lss rfl rfl) ?_
      refine jl_prop (fun h29 => ?_) (fun h29 => ?_)
      ·first
       | (exfalso; omega)
       | (
        refine jnt ?_
        refine jc_seq ?_
        refine jc_true rfl ?_
        refine jc_skip ?_
        refine jq_then ?_
        refine jc_seq ?_
        refine jc_block ?_
        refine jsr ?_
        refine jz ?_
        refine jz ?_
        refine jnt ?_
        refine jc_schedC (Hp w [] [.cells b20 [.pointer (some ⟨b17, 0, none⟩), .string seed, .slice adl i cl, .string ⟨#[]⟩], .cells b17 [.int .i64 0, .int .i64 ((2 ^ h : Nat) : Int)]]) 13 [(0, true), (1, true), (2, true), (3, true), (4, true), (5, true), (6, true), (7, false), (8, false), (9, false), (10, false), (11, true), (12, true)] rfl (by kernel_rfl) (fun _ _ _ _ h => h) (fun _ h => (h.pop).drew) (fun _ h => h.drew) ?_
        simp only [pickO, nthO, List.drop_succ_cons, List.drop_zero]
        refine jkz ?_
        refine jkz ?_
        refine jkz ?_
        refine jkz ?_
        refine jkz ?_
        refine jkz ?_
        refine jkz ?_
        refine js_pcall (by intro _ h; first | exact h | exact h.pop | exact h.pop.pop | exact h.pop.pop.pop | exact h.pop.pop.pop.pop | exact h.pop.pop.pop.pop.pop | exact h.pop.pop.pop.pop.pop.pop | exact h.part .nil) rfl (by decide) rfl (goes_func rfl) (fun w1 hw1 => pcall hw1 (seeded_any _ _ w1 (by omega))) ?_
        refine js_pcall (by intro _ h; first | exact h | exact h.pop | exact h.pop.pop | exact h.pop.pop.pop | exact h.pop.pop.pop.pop | exact h.pop.pop.pop.pop.pop | exact h.pop.pop.pop.pop.pop.pop | exact h.part .nil) rfl (by decide) rfl (goes_func rfl) (fun w1 hw1 => pcall hw1 (public_any _ w1 (by rw [seededS_size]; decide))) ?_
        refine js_m (by intros; rename_i h; first | exact h | exact h.pop | exact h.pop.pop | exact h.pop.pop.pop | exact h.pop.pop.pop.pop | exact h.pop.pop.pop.pop.pop | exact h.pop.pop.pop.pop.pop.pop | exact h.part .nil) rfl (by decide) rfl (m_buildSlice (by decide) (Built.cell rfl rfl rfl (by repeat constructor) Built.nil)) (fun b40 => ?_)
        refine js_m2z rfl (by decide) rfl (m_append rfl rfl (by first | exact del0 | exact del1 | exact del2 | exact del3 | exact del4) (by first | exact del0 | exact del1 | exact del2 | exact del3 | exact del4) rfl (by omega) (by omega)) (by intros; rename_i h; first | exact h | exact h.pop | exact h.pop.pop | exact h.pop.pop.pop | exact h.pop.pop.pop.pop | exact h.pop.pop.pop.pop.pop | exact h.pop.pop.pop.pop.pop.pop | exact h.part .nil) (fun a41 c41 => ?_)
        refine jkz ?_
        refine jkz ?_
        refine js_nil ?_
        refine jst ?_
        refine jl_nil ?_
        refine jq_block ?_
        refine jq_then ?_
        refine jc_region ?_
        refine jy (y_add_fits rfl rfl (by simp only [fits]; omega)) ?_
        refine jz ?_
        refine jl_nil ?_
        refine jq_round3 (i := i) (j := adl) (l := cl) (i + 1) a41 c41 ?_ ?_ ?_
        ·omega
        ·exact ⟨rfl, rfl, rfl, lk_int rfl (by omega), trivial⟩
        ·exact fun _ h => ⟨by omega, h.cast (by rw [leavesN_succ, List.map_append]; rfl)⟩
        )
      ·first
       | (exfalso; omega)
       | (
        refine jnt ?_
        refine jc_seq ?_
        refine jc_false rfl ?_
        refine jc_exit ?_
        refine jq_then_exit ?_
        refine jq_then_exit ?_
        refine jq_hit ?_
        refine jq_then ?_
        refine jc_seq ?_
        have hi2 : i = 2 ^ h := by omega
        subst hi2
        refine jc_region ?_
        refine jz ?_
        refine jz ?_
        refine jz ?_
        refine jz ?_
        refine jz ?_
        refine jl_as (u := .slice adl (leavesS seed h).length cl) (by rw [leavesS_length]) ?_
        refine jpc (goes_func rfl) (fun w1 hw1 => root1_any _ _ (leavesS seed h) w1 (by rw [leavesS_length]; omega) (Strs.of_own (hw1.get mem0))) ?_
        refine jz ?_
        refine jz ?_
        refine jz ?_
        refine jz ?_
        refine jz ?_
        refine jst ?_
        refine jnt ?_
        refine jsr ?_
        refine jz ?_
        refine jz ?_
        refine jz ?_
        refine jnt ?_
        refine jc_ret ?_
        refine jq_ret2 rfl rfl rfl ?_
        exact fun w' hw => by
         have hrow := hw.get (A := .row (adl) (2 ^ h) (cl) 9 1 ((leavesS seed h).map .string)) mem0
         have hkey : Cells w' b20 [.pointer (some ⟨b17, 0, none⟩), .string seed, .slice adl (2 ^ h) cl, .string (rootK seed h)] := hw.get mem1
         have hap := hw.apart
         simp only [List.pairwise_cons] at hap
         refine ⟨(b20, b17), rfl, (hw.part (.cons del2 .nil)).fresh, fun S hS => ⟨?_, hkey.cell 0, hkey.cell 1, hkey.cell 3, adl, cl, by rw [leavesS_length]; exact hkey.cell 2, Strs.of_own hrow, ?_⟩⟩
         ·intro hm
          rcases List.mem_cons.1 hm with e | hm
          ·have e2 : b20 = b17 := e
           exact hap.2.1 _ (.head _) b20 rfl (by rw [e2]; rfl)
          ·rcases hw.own _ mem1 b20 rfl with h1 | h1
           ·have := hS _ hm; omega
           ·cases h1
         ·intro b o e hm
          subst e
          rcases List.mem_cons.1 hm with e | hm
          ·have e2 : b = b17 := e
           exact hap.1 _ (.tail _ (.head _)) b rfl (by rw [e2]; rfl)
          ·rcases hw.own _ mem0 b rfl with h1 | h1
           ·have := hS _ hm; omega
           ·cases h1
        )
     )
   )

theorem mnew_bad (seed : ByteArray) (h : Int) (w : World) (hh : ¬ (0 ≤ h ∧ h ≤ 4)) :
  Calls Try.prog 7 #[.string seed, .int .i64 h] w fun e w' => e = .returned (.tuple #[.pointer none, .int .i64 1]) ∧ Ch [] w w' := by
 refine calls_of (n := 57) (E := [(0, .string seed), (1, .int .i64 h)]) (W := Hp w [] []) Try.func7 rfl rfl (Nat.le_of_ble_eq_true rfl) rfl (Hp.nil _ _) ?_
 refine jsr ?_
 refine jz ?_
 refine jz ?_
 refine jnt ?_
 refine jc_seq ?_
 refine jsr ?_
 refine jz ?_
 refine jy (y_lss rfl rfl) ?_
 refine jl_prop (fun h9 => ?_) (fun h9 => ?_)
 ·first
  | (exfalso; omega)
  | (
   refine jz ?_
   refine jsk ?_
   refine jsk ?_
   refine jy (y_pick_true rfl rfl) ?_
   refine jnt ?_
   refine jc_true rfl ?_
   refine jsr ?_
   refine jz ?_
   refine jz ?_
   refine jnt ?_
   refine jc_ret ?_
   refine jq_then_ret ?_
   refine jq_ret2 rfl rfl rfl ?_
   exact fun _ hw => ⟨rfl, hw.ch⟩
   )
 ·first
  | (exfalso; omega)
  | (
   refine jz ?_
   refine jz ?_
   refine jy (y_gtr rfl rfl) ?_
   refine jl_prop (fun h12 => ?_) (fun h12 => ?_)
   ·first
    | (exfalso; omega)
    | (
     refine jy (y_pick_false rfl rfl) ?_
     refine jnt ?_
     refine jc_true rfl ?_
     refine jsr ?_
     refine jz ?_
     refine jz ?_
     refine jnt ?_
     refine jc_ret ?_
     refine jq_then_ret ?_
     refine jq_ret2 rfl rfl rfl ?_
     exact fun _ hw => ⟨rfl, hw.ch⟩
     )
   ·exfalso; omega
   )

theorem kroot_any (S : List Nat) (bk bc : Nat) (seed : ByteArray) (h : Nat) (w : World) (hk : KeyAt w S bk bc seed h) :
  Calls Try.prog 10 #[.pointer (some ⟨bk, 0, none⟩)] w fun e w' => e = .returned (.string (rootK seed h)) ∧ Ch [] w w' := by
 obtain ⟨hk0, hk1, hk2, hk3, adl, cl, hk4, hk5, hk6⟩ := hk
 refine calls_of (n := 7) (E := [(0, .pointer (some ⟨bk, 0, none⟩))]) (W := Hp w [] []) Try.func10 rfl rfl (Nat.le_of_ble_eq_true rfl) rfl (Hp.nil _ _) ?_
 refine jsr ?_
 refine jz ?_
 refine jnt ?_
 refine jsr ?_
 refine jz ?_
 refine jz ?_
 refine jz ?_
 refine jy (y_load_old rfl hk3 (by simp)) ?_
 refine jz ?_
 refine jnt ?_
 refine jc_ret ?_
 refine jq_ret1 rfl rfl ?_
 exact fun _ hw => ⟨rfl, hw.ch⟩

theorem ksign_ok (S : List Nat) (bk bc : Nat) (seed : ByteArray) (h : Nat) (w : World) (hk : KeyAt w S bk bc seed h) (hbc : bc ∈ S) (hh : h ≤ 4) (hsd : seed.size ≤ 1000000) (msg : ByteArray) (hm : msg.size ≤ 900000) (i : Nat) (hi : i < 2 ^ h) (hA : HA.ok w (.cells bc [.int .i64 ((i : Nat)), .int .i64 ((2 ^ h : Nat) : Int)])) :
  Calls Try.prog 13 #[.pointer (some ⟨bk, 0, none⟩), .string msg] w fun e w' => e = .returned (.tuple #[.string (signK seed h i msg), .int .i64 0]) ∧ Upd w w' (.cells bc [.int .i64 ((i : Nat)), .int .i64 ((2 ^ h : Nat) : Int)]) (.cells bc [.int .i64 (((i + 1 : Nat) : Int)), .int .i64 ((2 ^ h : Nat) : Int)]) := by
 obtain ⟨hk0, hk1, hk2, hk3, adl, cl, hk4, hk5, hk6⟩ := hk
 have hne : bk ≠ bc := fun e => hk0 (e ▸ hbc)
 have hne6 : ∀ b o, adl = some ⟨b, o, none⟩ → b ∉ [bc] := fun b o e hm => hk6 b o e (by simp at hm; subst hm; exact hbc)
 have hp16 := pow_le16 hh
 have hrz := rootK_size seed hh
 have hpo := @path_ok (leavesS seed h) (i : Nat) ⟨leavesS_ok seed hh, by omega, by rw [leavesS_length]; omega⟩
 rw [Int.toNat_natCast, leavesS_tall seed hh] at hpo
 have hpl := pathN_length (leavesS seed h) i h
 refine calls_of (n := 75) (E := [(0, .pointer (some ⟨bk, 0, none⟩)), (1, .string msg)]) (W := Hp w [bc] [.cells bc [.int .i64 ((i : Nat)), .int .i64 ((2 ^ h : Nat) : Int)]]) Try.func13 rfl rfl (Nat.le_of_ble_eq_true rfl) rfl (Hp.start rfl hA) ?_
 refine jsr ?_
 refine jz ?_
 refine jz ?_
 refine jnt ?_
 refine jsr ?_
 refine jz ?_
 refine jz ?_
 refine jz ?_
 refine jy (y_load_old rfl hk1 (by simpa using hne)) ?_
 refine jz ?_
 refine jz ?_
 refine jz ?_
 refine jz ?_
 refine jnt ?_
 refine jc_seq ?_
 refine jsr ?_
 refine jz ?_
 refine jz ?_
 refine jz ?_
 refine jz ?_
 refine jy (y_load_old rfl hk1 (by simpa using hne)) ?_
 refine jz ?_
 refine jz ?_
 refine jz ?_
 refine jy (y_geq rfl rfl) ?_
 refine jl_prop (fun h27 => ?_) (fun h27 => ?_)
 ·first
  | (exfalso; omega)
  | (
   refine jnt ?_
   refine jc_true rfl ?_
   refine jsr ?_
   refine jz ?_
   refine jz ?_
   refine jnt ?_
   refine jc_ret ?_
   refine jq_then_ret ?_
   refine jq_ret2 rfl rfl rfl ?_
   exact fun w' hw => ⟨by have e : j = h := (by omega); subst e; rfl, (hw.part (.cons del1 .nil)).updd rfl⟩
   )
 ·first
  | (exfalso; omega)
  | (
   refine jnt ?_
   refine jc_false rfl ?_
   refine jc_skip ?_
   refine jq_then ?_
   refine jsr ?_
   refine jz ?_
   refine jz ?_
   refine jz ?_
   refine jy (y_load_old rfl hk1 (by simpa using hne)) ?_
   refine jz ?_
   refine jz ?_
   refine jz ?_
   refine jy (y_add_fits rfl rfl (by simp only [fits]; omega)) ?_
   refine jz ?_
   refine jz ?_
   refine jst ?_
   refine jnt ?_
   refine jc_seq ?_
   refine jc_draw (by kernel_rfl) (fun _ h => h.drew) ?_
   refine juz ?_
   refine ju_call rfl (by decide) rfl (goes_func rfl) (fun w1 hw1 => pcall hw1 (mone_any _ w1)) ?_
   refine juz ?_
   refine juz ?_
   refine juz ?_
   refine juy (y_load_old rfl hk2 (by simpa using hne)) ?_
   refine juz ?_
   refine ju_call rfl (by decide) rfl (goes_func rfl) (fun w1 hw1 => pcall hw1 (seeded_any _ _ w1 (by omega))) ?_
   refine juz ?_
   refine juz ?_
   refine juz ?_
   refine juy (y_load_old rfl hk3 (by simpa using hne)) ?_
   refine juz ?_
   refine juz ?_
   refine ju_call rfl (by decide) rfl (goes_func rfl) (fun w1 hw1 => pcall hw1 (about_any _ _ _ w1 (by omega) (by omega))) ?_
   refine ju_call rfl (by decide) rfl (goes_func rfl) (fun w1 hw1 => pcall hw1 (sign_any _ _ w1 (by rw [seededS_size]; decide) (by rw [aboutS_size]; omega))) ?_
   refine juy (y_concat rfl rfl (by first | (simp only [oneB_size, signS_size]; omega) | omega)) ?_
   refine ju_as (u := .string (signP seed h i msg 0)) (congrArg Value.string (signP_zero seed h i msg).symm) ?_
   refine juz ?_
   refine ju_nil ?_
   refine jq_then ?_
   refine jsr ?_
   refine jz ?_
   refine jz ?_
   refine jz ?_
   refine jy (y_load_old rfl hk4 (by simpa using hne)) ?_
   refine jz ?_
   refine jl_fcall rfl (by decide) rfl (goes_func rfl) (fun w1 hw1 => path1_any _ _ (leavesS seed h) w1 (by rw [leavesS_length]; omega) (hw1.strs hk5 hne6) _) (fun ⟨ap, cp⟩ => ?_)
   refine jz ?_
   refine jz ?_
   refine jl_as (u := .slice ap h cp) (by rw [hpo.1, hpl] <;> rfl) ?_
   refine jz ?_
   refine jz ?_
   refine jz ?_
   refine jnt ?_
   refine jc_seq ?_
   refine jc_seq ?_
   refine jc_world (fun _ hw => hw.cast (H' := [.row (ap) (h) (cp) 9 1 ((pathN (leavesS seed h) i h).map .string), .cells bc [.int .i64 ((i : Nat) + 1), .int .i64 ((2 ^ h : Nat) : Int)]]) (by rw [hpo.1, hpl] <;> rfl)) ?_
   refine jc_region ?_
   refine jz ?_
   refine jy (y_len_slice rfl) ?_
   refine jz ?_
   refine jnt ?_
   refine jc_block ?_
   refine jc_loop (fun (j : Nat) => [(7, .string (signP seed h i msg j)), (64, .slice ap h cp), (65, .int .i64 h), (66, .int .i64 (j : Nat))]) (fun (j : Nat) => fun w' => j ≤ h ∧ Hp w [bc] [.row (ap) (h) (cp) 9 1 ((pathN (leavesS seed h) i h).map .string), .cells bc [.int .i64 ((i : Nat) + 1), .int .i64 ((2 ^ h : Nat) : Int)]] w') (fun (j : Nat) => h - j) 0 ?_ ?_ ?_
   ·exact ⟨rfl, rfl, rfl, rfl, trivial⟩
   ·exact fun _ h => ⟨by omega, h⟩
   ·intro j
    refine jc_and (fun hj => ?_)
    refine jsr ?_
    refine jy (y_lss rfl rfl) ?_
    refine jl_prop (fun h67 => ?_) (fun h67 => ?_)
    ·first
     | (exfalso; omega)
     | (
      refine jl_pure (fun _ hw => row_some (hw.get mem0) (by omega)) (fun hps => ?_)
      obtain ⟨bp, hbp⟩ := hps
      subst hbp
      have hsz := signP_size seed hi msg (show j ≤ h by omega)
      have hps := path_size (l := leavesS seed h) (leavesN_size _ _) (leavesS_length seed h) (show i < (leavesS seed h).length by rw [leavesS_length]; exact hi) (show j < h by omega)
      refine jnt ?_
      refine jc_seq ?_
      refine jc_true rfl ?_
      refine jc_skip ?_
      refine jq_then ?_
      refine jc_seq ?_
      refine jc_block ?_
      refine jsr ?_
      refine jy (y_indexAddr_slice (off := j) rfl rfl (by omega) (by omega) (by omega)) ?_
      refine jy (y_load_row rfl mem0 (by rw [List.getElem?_map, at0_some (by rw [hpl]; omega), pathN_at (by omega)]; rfl)) ?_
      refine jz ?_
      refine jnt ?_
      refine jc_region ?_
      refine jz ?_
      refine jz ?_
      refine jy (y_concat rfl rfl (by first | (simp only [oneB_size, signS_size]; omega) | omega)) ?_
      refine jl_as (u := .string (signP seed h i msg (j + 1))) (congrArg Value.string (signP_succ seed h i msg j).symm) ?_
      refine jz ?_
      refine jl_nil ?_
      refine jq_block ?_
      refine jq_then ?_
      refine jc_region ?_
      refine jy (y_add_fits rfl rfl (by simp only [fits]; omega)) ?_
      refine jz ?_
      refine jl_nil ?_
      refine jq_round (i := j) (j + 1) ?_ ?_ ?_
      ·omega
      ·exact ⟨rfl, rfl, rfl, lk_int rfl (by omega), trivial⟩
      ·exact fun _ h => ⟨by omega, h⟩
      )
    ·first
     | (exfalso; omega)
     | (
      refine jnt ?_
      refine jc_seq ?_
      refine jc_false rfl ?_
      refine jc_exit ?_
      refine jq_then_exit ?_
      refine jq_then_exit ?_
      refine jq_hit ?_
      refine jq_then ?_
      refine jsr ?_
      refine jz ?_
      refine jz ?_
      refine jz ?_
      refine jnt ?_
      refine jc_ret ?_
      refine jq_ret2 rfl rfl rfl ?_
      exact fun w' hw => ⟨by have e : j = h := (by omega); subst e; rfl, (hw.part (.cons del1 .nil)).updd rfl⟩
      )
   )

theorem ksign_bad (S : List Nat) (bk bc : Nat) (seed : ByteArray) (h : Nat) (w : World) (hk : KeyAt w S bk bc seed h) (msg : ByteArray) (n : Int) (m : Int) (hnm : m ≤ n) (hc0 : CellAt w bc 0 (.int .i64 n)) (hc1 : CellAt w bc 1 (.int .i64 m)) :
  Calls Try.prog 13 #[.pointer (some ⟨bk, 0, none⟩), .string msg] w fun e w' => e = .returned (.tuple #[.string ⟨#[]⟩, .int .i64 14]) ∧ Ch [] w w' := by
 obtain ⟨hk0, hk1, hk2, hk3, adl, cl, hk4, hk5, hk6⟩ := hk
 refine calls_of (n := 75) (E := [(0, .pointer (some ⟨bk, 0, none⟩)), (1, .string msg)]) (W := Hp w [] []) Try.func13 rfl rfl (Nat.le_of_ble_eq_true rfl) rfl (Hp.nil _ _) ?_
 refine jsr ?_
 refine jz ?_
 refine jz ?_
 refine jnt ?_
 refine jsr ?_
 refine jz ?_
 refine jz ?_
 refine jz ?_
 refine jy (y_load_old rfl hk1 (by simp)) ?_
 refine jz ?_
 refine jz ?_
 refine jy (y_load_old rfl hc0 (by simp)) ?_
 refine jz ?_
 refine jnt ?_
 refine jc_seq ?_
 refine jsr ?_
 refine jz ?_
 refine jz ?_
 refine jz ?_
 refine jz ?_
 refine jy (y_load_old rfl hk1 (by simp)) ?_
 refine jz ?_
 refine jz ?_
 refine jy (y_load_old rfl hc1 (by simp)) ?_
 refine jy (y_geq rfl rfl) ?_
 refine jl_prop (fun h27 => ?_) (fun h27 => ?_)
 ·first
  | (exfalso; omega)
  | (
   refine jnt ?_
   refine jc_true rfl ?_
   refine jsr ?_
   refine jz ?_
   refine jz ?_
   refine jnt ?_
   refine jc_ret ?_
   refine jq_then_ret ?_
   refine jq_ret2 rfl rfl rfl ?_
   exact fun _ hw => ⟨rfl, hw.ch⟩
   )
 ·exfalso; omega

theorem leaf_any (sig : ByteArray) (w : World) (hsz : sig.size ≤ 1000000) :
  Calls Try.prog 78 #[.string sig] w fun e w' => e = .returned (.tuple #[.int .i64 (leafV sig), .int .i64 (leafE sig)]) ∧ Ch [] w w' := by
 obtain ⟨q, hq⟩ : ∃ q : Nat, q = (sig.size - 289) / 16 := ⟨_, rfl⟩
 have hb0 := byte0_range sig
 have hlo : leafOk sig ↔ (289 ≤ sig.size ∧ (sig.size - 289) % 16 = 0 ∧ sig.size - 289 ≤ 64 ∧ byte0 sig < ((2 ^ q : Nat) : Int)) := by rw [hq]; exact Iff.rfl
 refine calls_of (n := 32) (E := [(0, .string sig)]) (W := Hp w [] []) Try.func78 rfl rfl (Nat.le_of_ble_eq_true rfl) rfl (Hp.nil _ _) ?_
 refine jsr ?_
 refine jz ?_
 refine jz ?_
 refine jnt ?_
 refine jsr ?_
 refine jz ?_
 refine jy (y_len_str rfl) ?_
 refine jy (y_sub_fits rfl rfl (by simp only [fits]; omega)) ?_
 refine jy (y_sub_fits rfl rfl (by simp only [fits]; omega)) ?_
 refine jz ?_
 refine jnt ?_
 refine jc_seq ?_
 refine jc_seq ?_
 refine jc_draw (by kernel_rfl) (fun _ h => h.drew) ?_
 refine juz ?_
 refine juy (y_lss rfl rfl) ?_
 refine ju_prop (fun h10 => ?_) (fun h10 => ?_)
 ·first
  | (exfalso; omega)
  | (
   refine juz ?_
   refine ju_skip rfl (by decide) rfl ?_
   refine ju_skip rfl (by decide) rfl ?_
   refine ju_skip rfl (by decide) rfl ?_
   refine juy (y_pick_true rfl rfl) ?_
   refine juz ?_
   refine ju_skip rfl (by decide) rfl ?_
   refine ju_skip rfl (by decide) rfl ?_
   refine juy (y_pick_true rfl rfl) ?_
   refine juz ?_
   refine ju_skip rfl (by decide) rfl ?_
   refine ju_skip rfl (by decide) rfl ?_
   refine ju_skip rfl (by decide) rfl ?_
   refine ju_skip rfl (by decide) rfl ?_
   refine ju_skip rfl (by decide) rfl ?_
   refine ju_skip rfl (by decide) rfl ?_
   refine ju_skip rfl (by decide) rfl ?_
   refine juy (y_pick_true rfl rfl) ?_
   refine ju_nil ?_
   refine jq_then ?_
   refine jc_true rfl ?_
   refine jsr ?_
   refine jz ?_
   refine jz ?_
   refine jnt ?_
   refine jc_ret ?_
   refine jq_then_ret ?_
   refine jq_ret2 rfl rfl rfl ?_
   exact fun _ hw => ⟨by have f := leaf_bad (fun h => by have h2 := hlo.1 h; omega); rw [f.1, f.2], hw.ch⟩
   )
 ·first
  | (exfalso; omega)
  | (
   refine juz ?_
   refine juz ?_
   refine juy (y_rem rfl rfl (by omega) (by omega)) ?_
   refine juy (y_gtr rfl rfl) ?_
   refine ju_prop (fun h14 => ?_) (fun h14 => ?_)
   ·first
    | (exfalso; omega)
    | (
     refine juy (y_pick_false rfl rfl) ?_
     refine juz ?_
     refine ju_skip rfl (by decide) rfl ?_
     refine ju_skip rfl (by decide) rfl ?_
     refine juy (y_pick_true rfl rfl) ?_
     refine juz ?_
     refine ju_skip rfl (by decide) rfl ?_
     refine ju_skip rfl (by decide) rfl ?_
     refine ju_skip rfl (by decide) rfl ?_
     refine ju_skip rfl (by decide) rfl ?_
     refine ju_skip rfl (by decide) rfl ?_
     refine ju_skip rfl (by decide) rfl ?_
     refine ju_skip rfl (by decide) rfl ?_
     refine juy (y_pick_true rfl rfl) ?_
     refine ju_nil ?_
     refine jq_then ?_
     refine jc_true rfl ?_
     refine jsr ?_
     refine jz ?_
     refine jz ?_
     refine jnt ?_
     refine jc_ret ?_
     refine jq_then_ret ?_
     refine jq_ret2 rfl rfl rfl ?_
     exact fun _ hw => ⟨by have f := leaf_bad (fun h => by have h2 := hlo.1 h; omega); rw [f.1, f.2], hw.ch⟩
     )
   ·first
    | (exfalso; omega)
    | (
     refine juy (y_pick_false rfl rfl) ?_
     refine juz ?_
     refine juz ?_
     refine juy (y_gtr rfl rfl) ?_
     refine ju_prop (fun h18 => ?_) (fun h18 => ?_)
     ·first
      | (exfalso; omega)
      | (
       refine juy (y_pick_false rfl rfl) ?_
       refine juz ?_
       refine ju_skip rfl (by decide) rfl ?_
       refine ju_skip rfl (by decide) rfl ?_
       refine ju_skip rfl (by decide) rfl ?_
       refine ju_skip rfl (by decide) rfl ?_
       refine ju_skip rfl (by decide) rfl ?_
       refine ju_skip rfl (by decide) rfl ?_
       refine ju_skip rfl (by decide) rfl ?_
       refine juy (y_pick_true rfl rfl) ?_
       refine ju_nil ?_
       refine jq_then ?_
       refine jc_true rfl ?_
       refine jsr ?_
       refine jz ?_
       refine jz ?_
       refine jnt ?_
       refine jc_ret ?_
       refine jq_then_ret ?_
       refine jq_ret2 rfl rfl rfl ?_
       exact fun _ hw => ⟨by have f := leaf_bad (fun h => by have h2 := hlo.1 h; omega); rw [f.1, f.2], hw.ch⟩
       )
     ·first
      | (exfalso; omega)
      | (
       have hp16 := @pow_le16 q (by omega)
       refine juy (y_pick_false rfl rfl) ?_
       refine juz ?_
       refine juz ?_
       refine juy (y_at_str rfl rfl (by omega) (by omega)) ?_
       refine ju_as (u := .int .u8 (byte0 sig)) (congrArg (Value.int .u8) (bAt_ints sig 0)) ?_
       first | refine juy (y_conv_fits rfl (by simp only [fits]; omega)) ?_
       refine juz ?_
       refine juy (y_quo rfl rfl (by omega) (by omega) (by simp only [fits]; omega)) ?_
       refine ju_as (u := .int .i64 ((q : Nat) : Int)) (congrArg _ (by omega)) ?_
       refine juy (y_shl_fits (p := 1) (q := ((q : Nat) : Int)) rfl rfl (by omega) (by simp only [IntKind.bits]; omega) (by rw [pow_two]; simp only [fits]; omega)) ?_
       refine ju_as (u := .int .i64 ((2 ^ q : Nat) : Int)) (congrArg _ pow_two) ?_
       refine juy (y_geq rfl rfl) ?_
       refine ju_prop (fun h27 => ?_) (fun h27 => ?_)
       ·first
        | (exfalso; omega)
        | (
         refine juy (y_pick_false rfl rfl) ?_
         refine ju_nil ?_
         refine jq_then ?_
         refine jc_true rfl ?_
         refine jsr ?_
         refine jz ?_
         refine jz ?_
         refine jnt ?_
         refine jc_ret ?_
         refine jq_then_ret ?_
         refine jq_ret2 rfl rfl rfl ?_
         exact fun _ hw => ⟨by have f := leaf_bad (fun h => by have h2 := hlo.1 h; omega); rw [f.1, f.2], hw.ch⟩
         )
       ·first
        | (exfalso; omega)
        | (
         refine juy (y_pick_false rfl rfl) ?_
         refine ju_nil ?_
         refine jq_then ?_
         refine jc_false rfl ?_
         refine jc_skip ?_
         refine jq_then ?_
         refine jsr ?_
         refine jz ?_
         refine jy (y_at_str rfl rfl (by omega) (by omega)) ?_
         refine jl_as (u := .int .u8 (byte0 sig)) (congrArg (Value.int .u8) (bAt_ints sig 0)) ?_
         first | refine jy (y_conv_fits rfl (by simp only [fits]; omega)) ?_
         refine jz ?_
         refine jz ?_
         refine jnt ?_
         refine jc_ret ?_
         refine jq_ret2 rfl rfl rfl ?_
         exact fun _ hw => ⟨by have f := leaf_ok (hlo.2 ⟨by omega, by omega, by omega, by omega⟩); rw [f.1, f.2], hw.ch⟩
         )
       )
     )
   )

theorem verifyK_any (root msg sig : ByteArray) (w : World) (hm : msg.size ≤ 900000) (hsz : sig.size ≤ 1000000) :
  Calls Try.prog 67 #[.string root, .string msg, .string sig] w fun e w' => e = .returned (.bool (verK root msg sig)) ∧ Ch [] w w' := by
 refine calls_of (n := 63) (E := [(0, .string root), (1, .string msg), (2, .string sig)]) (W := Hp w [] []) Try.func67 rfl rfl (Nat.le_of_ble_eq_true rfl) rfl (Hp.nil _ _) ?_
 refine jsr ?_
 refine jz ?_
 refine jnt ?_
 refine jsr ?_
 refine jz ?_
 refine jpc (goes_func rfl) (fun w1 hw1 => leaf_any _ w1 (by omega)) ?_
 refine jz ?_
 refine jz ?_
 refine jz ?_
 refine jz ?_
 refine jz ?_
 refine jnt ?_
 refine jc_seq ?_
 refine jsr ?_
 refine jz ?_
 refine jy (y_neq rfl rfl) ?_
 refine jl_prop (fun h20 => ?_) (fun h20 => ?_)
 ·first
  | (exfalso; omega)
  | (
   refine jz ?_
   refine jsk ?_
   refine jsk ?_
   refine jy (y_pick_true rfl rfl) ?_
   refine jnt ?_
   refine jc_true rfl ?_
   refine jsr ?_
   refine jz ?_
   refine jnt ?_
   refine jc_ret ?_
   refine jq_then_ret ?_
   refine jq_ret1 rfl rfl ?_
   exact fun _ hw => ⟨by rw [ver_no (by omega)], hw.ch⟩
   )
 ·first
  | (exfalso; omega)
  | (
   refine jz ?_
   refine jz ?_
   refine jpc (goes_func rfl) (fun w1 hw1 => odd_any _ w1) ?_
   refine jl_bool (fun h23 => ?_) (fun h23 => ?_)
   ·skip
    refine jy (y_pick_false rfl rfl) ?_
    refine jnt ?_
    refine jc_true rfl ?_
    refine jsr ?_
    refine jz ?_
    refine jnt ?_
    refine jc_ret ?_
    refine jq_then_ret ?_
    refine jq_ret1 rfl rfl ?_
    exact fun _ hw => ⟨by rw [ver_no (fun h => by rw [oddB_no h.2] at h23; cases h23)], hw.ch⟩
   ·skip
    refine jy (y_pick_false rfl rfl) ?_
    refine jnt ?_
    refine jc_false rfl ?_
    refine jc_skip ?_
    refine jq_then ?_
    refine jc_seq ?_
    have hlf : leafOk sig := Decidable.byContradiction (fun hn => by have := (leaf_bad hn).2; omega)
    have hrt : root.size = 16 := oddB_size h23
    obtain ⟨hl1, hl2, hl3, hl4⟩ := hlf
    obtain ⟨q, hq⟩ : ∃ q : Nat, q = (sig.size - 289) / 16 := ⟨_, rfl⟩
    refine jc_world (fun _ h => h.nilrow 9 1) ?_
    refine jc_region ?_
    refine jz ?_
    refine jnt ?_
    refine jc_seq ?_
    refine jsr ?_
    refine jz ?_
    refine jnt ?_
    refine jc_block ?_
    refine jc_loop3 (fun (j : Nat) (ad : Option Addr) (c : Nat) => [(0, .string root), (1, .string msg), (2, .string sig), (7, .int .i64 (leafV sig)), (9, .slice ad j c), (10, .int .i64 (289 + 16 * (j : Nat)))]) (fun (j : Nat) (ad : Option Addr) (c : Nat) => fun w' => j ≤ q ∧ Hp w [] [.row (ad) (j) (c) 9 1 ((partsN sig j).map .string)] w') (fun (j : Nat) (ad : Option Addr) (c : Nat) => q - j) 0 none 0 ?_ ?_ ?_
    ·exact ⟨rfl, rfl, rfl, rfl, rfl, rfl, trivial⟩
    ·exact fun _ h => ⟨by omega, h⟩
    ·intro j ad c
     refine jc_and (fun hj => ?_)
     refine jc_seq ?_
     refine jsr ?_
     refine jz ?_
     refine jz ?_
     refine jy (y_len_str rfl) ?_
     refine jy (y_lss rfl rfl) ?_
     refine jl_prop (fun h28 => ?_) (fun h28 => ?_)
     ·first
      | (exfalso; omega)
      | (
       refine jnt ?_
       refine jc_true rfl ?_
       refine jc_skip ?_
       refine jq_then ?_
       refine jc_seq ?_
       refine jc_block ?_
       refine jc_region ?_
       refine jz ?_
       refine jz ?_
       refine jz ?_
       refine jz ?_
       refine jy (y_add_fits rfl rfl (by simp only [fits]; omega)) ?_
       refine jy (y_substr rfl rfl rfl (by omega) (by omega) (by omega)) ?_
       refine jl_as (u := .string (sig.extract (289 + 16 * j) (289 + 16 * j + 16))) (congrArg Value.string (by congr 1 <;> omega)) ?_
       refine jl_m rfl (by decide) rfl (m_buildSlice (by decide) (Built.cell rfl rfl rfl (by repeat constructor) Built.nil)) (fun b37 => ?_)
       refine jl_m2 rfl (by decide) rfl (m_append rfl rfl (by first | exact del0 | exact del1 | exact del2 | exact del3 | exact del4) (by first | exact del0 | exact del1 | exact del2 | exact del3 | exact del4) rfl (by omega) (by omega)) (fun a38 c38 => ?_)
       refine jz ?_
       refine jl_nil ?_
       refine jq_block ?_
       refine jq_then ?_
       refine jc_region ?_
       refine jz ?_
       refine jy (y_add_fits rfl rfl (by simp only [fits]; omega)) ?_
       refine jz ?_
       refine jl_nil ?_
       refine jq_round3 (i := j) (j := ad) (l := c) (j + 1) a38 c38 ?_ ?_ ?_
       ·omega
       ·exact ⟨rfl, rfl, rfl, rfl, rfl, lk_int rfl (by omega), trivial⟩
       ·exact fun _ h => ⟨by omega, h.cast (by rw [partsN_succ, List.map_append]; rfl)⟩
       )
     ·first
      | (exfalso; omega)
      | (
       refine jnt ?_
       refine jc_false rfl ?_
       refine jc_exit ?_
       refine jq_then_exit ?_
       refine jq_then_exit ?_
       refine jq_hit ?_
       refine jq_then ?_
       refine jc_seq ?_
       refine jc_draw (by kernel_rfl) (fun _ h => h.drew) ?_
       refine juz ?_
       refine juz ?_
       refine juz ?_
       refine ju_call rfl (by decide) rfl (goes_func rfl) (fun w1 hw1 => pcall hw1 (about_any _ _ _ w1 (by omega) (by omega))) ?_
       refine juz ?_
       refine juy (y_substr rfl rfl rfl (by omega) (by omega) (by omega)) ?_
       refine ju_as (u := .string (sig.extract 1 289)) rfl ?_
       refine ju_call rfl (by decide) rfl (goes_func rfl) (fun w1 hw1 => pcall hw1 (from_any _ _ w1 (by rw [aboutS_size]; omega))) ?_
       refine juz ?_
       refine juz ?_
       refine juz ?_
       refine juz ?_
       refine juz ?_
       refine ju_nil ?_
       refine jq_then ?_
       refine jsr ?_
       refine jz ?_
       refine jz ?_
       refine jz ?_
       refine jl_as (u := .slice ad (partsS sig).length c) (by have e : j = q := (by omega); rw [e, hq]; unfold partsS; rw [partsN_length]) ?_
       refine jpc (goes_func rfl) (fun w1 hw1 => up1_any _ _ _ _ (partsS sig) w1 (by unfold partsS; rw [partsN_length]; omega) (by have e : j = (sig.size - 289) / 16 := (by omega); have h2 := Strs.of_own (hw1.get mem0); rw [e] at h2; exact h2)) ?_
       refine jz ?_
       refine jz ?_
       refine jz ?_
       refine jz ?_
       refine jz ?_
       refine jnt ?_
       refine jsr ?_
       refine jz ?_
       refine jy (y_eql rfl rfl) ?_
       refine jl_prop (fun h57 => ?_) (fun h57 => ?_)
       ·first
        | (exfalso; omega)
        | (
         refine jz ?_
         refine jz ?_
         refine jz ?_
         refine jy (y_seql rfl rfl) ?_
         refine jy (y_pick_true rfl rfl) ?_
         refine jz ?_
         refine jnt ?_
         refine jc_ret ?_
         refine jq_ret1 rfl rfl ?_
         exact fun _ hw => ⟨by rw [ver_yes ⟨by omega, hrt⟩]; simp [*], hw.ch⟩
         )
       ·first
        | (exfalso; omega)
        | (
         refine jz ?_
         refine jsk ?_
         refine jsk ?_
         refine jsk ?_
         refine jy (y_pick_false rfl rfl) ?_
         refine jz ?_
         refine jnt ?_
         refine jc_ret ?_
         refine jq_ret1 rfl rfl ?_
         exact fun _ hw => ⟨by rw [ver_yes ⟨by omega, hrt⟩]; simp [*], hw.ch⟩
         )
       )
   )

end Go.Proofs.Ytghomncegjamfaa
