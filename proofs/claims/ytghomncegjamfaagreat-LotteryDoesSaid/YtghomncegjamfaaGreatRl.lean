/- The walks of package turnstileref07, part two. Written by program (walk.py) out of a table of contracts and invariants. -/
import Derived.Test.YtghomncegjamfaaGreatWo
import Derived.Test.YtghomncegjamfaaGreatMk2
namespace Go.Proofs.YtghomncegjamfaaGreat
open Go.RowKit
set_option maxRecDepth 100000
set_option linter.unusedVariables false
set_option linter.unusedSimpArgs false
attribute [local irreducible] Yields Makes Writes
theorem bAt_msgH (msg : ByteArray) (i : Nat) : (bAt (msgH msg) i : Int) = hAt msg i := bAt_ints _ _
theorem digs_end (msg : ByteArray) : digL msg 8 ++ [lackL msg 8 / 16] ++ [lackL msg 8 % 16] = digs msg := by unfold digs; simp
def lackR (msg : ByteArray) (i : Nat) : Int := 240 - 30 * i + lackL msg i
theorem map_two (l : List Int) (x y : Int) : l.map (Value.int .i64) ++ [.int .i64 x] ++ [.int .i64 y] = (l ++ [x, y]).map (Value.int .i64) := by simp
theorem map_one (l : List Int) (x : Int) : l.map (Value.int .i64) ++ [.int .i64 x] = (l ++ [x]).map (Value.int .i64) := by simp

theorem rdigits_any (msg : ByteArray) (w : World) (hs : msg.size ≤ 1000000) :
  Calls Tryz.prog 125 #[.string msg] w fun e w' => ∃ p : Nat × Nat, e = .returned (.slice (some ⟨p.1, 0, none⟩) 18 p.2) ∧ Fresh w w' (.row (some ⟨p.1, 0, none⟩) (18) (p.2) 3 1 ((digs msg).map (.int .i64))) := by
 refine calls_of (n := 55) (E := [(0, .string msg)]) (W := Hp w [] []) Tryz.func125 rfl rfl (Nat.le_of_ble_eq_true rfl) rfl (Hp.nil _ _) ?_; refine jsr ?_; refine jz ?_; refine jnt ?_; refine jsr ?_; refine jz ?_; refine jl_m rfl (by decide) rfl (m_buildSlice (by decide) (Built.cell rfl rfl rfl (by repeat constructor) Built.nil)) (fun b8 => ?_); refine jpc (goes_func rfl) (fun w1 hw1 => rtag_any strMessage (some ⟨b8, 0, none⟩) 1 [msg] w1 (by decide) (by simp) (all1 (hs)) (Strs.of_row (hw1.get mem0))) ?_; refine jl_as (u := .string (msgH msg)) rfl ?_; refine jl_m rfl (by decide) rfl (m_buildSlice (by decide) Built.nil) (fun b10 => ?_); (iterate 3 refine jz ?_); refine jnt ?_; refine jc_seq ?_; refine jsr ?_; refine jz ?_; refine jnt ?_; refine jc_block ?_; refine jc_loop3 (fun (i : Nat) (ad : Option Addr) (cap : Nat) => [(3, .string (msgH msg)), (4, .slice ad (2 * i) cap), (5, .int .i64 (240 - 30 * (i : Int) + lackL msg i)), (6, .int .i64 (i : Nat))]) (fun (i : Nat) (ad : Option Addr) (cap : Nat) => fun w' => i ≤ 8 ∧ Hp w [] [.row (ad) (2 * i) (cap) 3 1 ((digL msg i).map (.int .i64))] w') (fun (i : Nat) (ad : Option Addr) (cap : Nat) => 8 - i) 0 (some ⟨b10, 0, none⟩) 0 ?_ ?_ ?_
 ·exact ⟨rfl, rfl, lk_int rfl (by simp [lackL]), rfl, trivial⟩
 ·exact fun _ h => ⟨by omega, h.part (.cons del0 .nil)⟩
 ·intro i ad cap
  refine jc_and (fun hi => ?_)
  have hl := lackL_range msg i
  have hr := hAt_range msg i
  have hl1 : lackL msg (i + 1) = lackL msg i + (30 - hAt msg i / 16 - hAt msg i % 16) := rfl
  refine jc_seq ?_; refine jsr ?_; refine jz ?_; refine jy (y_lss rfl rfl) ?_; refine jl_prop (fun h12 => ?_) (fun h12 => ?_)
  ·first | (exfalso; omega) | (
    refine jnt ?_; refine jc_true rfl ?_; refine jc_skip ?_; refine jq_then ?_; refine jc_seq ?_; refine jc_block ?_; refine jsr ?_; (iterate 3 refine jz ?_); refine jy (y_at_str rfl rfl (by omega) (by rw [show (msgH msg).size = 16 from msgH_size msg]; omega)) ?_; refine jl_as (u := .int .u8 (hAt msg i)) (congrArg _ (bAt_msgH _ _)) ?_; refine jy (y_quo rfl rfl (by omega) (by omega) (by simp only [fits]; omega)) ?_
    first | refine jy (y_conv_fits rfl (by simp only [fits]; omega)) ?_
    refine jl_m rfl (by decide) rfl (m_buildSlice (by decide) (Built.cell rfl rfl rfl (by repeat constructor) Built.nil)) (fun b21 => ?_); refine jl_m2 rfl (by decide) rfl (m_append rfl rfl (by first | exact del0 | exact del1 | exact del2 | exact del3 | exact del4) (by first | exact del0 | exact del1 | exact del2 | exact del3 | exact del4) rfl (by omega) (by omega)) (fun ad22 cap22 => ?_); refine jz ?_; refine jnt ?_; refine jsr ?_; (iterate 3 refine jz ?_); refine jy (y_at_str rfl rfl (by omega) (by rw [show (msgH msg).size = 16 from msgH_size msg]; omega)) ?_; refine jl_as (u := .int .u8 (hAt msg i)) (congrArg _ (bAt_msgH _ _)) ?_; refine jy (y_rem rfl rfl (by omega) (by omega)) ?_
    first | refine jy (y_conv_fits rfl (by simp only [fits]; omega)) ?_
    refine jl_m rfl (by decide) rfl (m_buildSlice (by decide) (Built.cell rfl rfl rfl (by repeat constructor) Built.nil)) (fun b29 => ?_); refine jl_m2 rfl (by decide) rfl (m_append rfl rfl (by first | exact del0 | exact del1 | exact del2 | exact del3 | exact del4) (by first | exact del0 | exact del1 | exact del2 | exact del3 | exact del4) rfl (by omega) (by omega)) (fun ad30 cap30 => ?_); refine jz ?_; refine jnt ?_; refine jc_draw (by kernel_rfl) (fun _ h => h.drew) ?_; (iterate 3 refine juz ?_); refine juy (y_at_str rfl rfl (by omega) (by rw [show (msgH msg).size = 16 from msgH_size msg]; omega)) ?_; refine ju_as (u := .int .u8 (hAt msg i)) (congrArg _ (bAt_msgH _ _)) ?_; refine juy (y_quo rfl rfl (by omega) (by omega) (by simp only [fits]; omega)) ?_
    first | refine juy (y_conv_fits rfl (by simp only [fits]; omega)) ?_
    refine juy (ysf rfl rfl) ?_; (iterate 2 refine juz ?_); refine juy (y_at_str rfl rfl (by omega) (by rw [show (msgH msg).size = 16 from msgH_size msg]; omega)) ?_; refine ju_as (u := .int .u8 (hAt msg i)) (congrArg _ (bAt_msgH _ _)) ?_; refine juy (y_rem rfl rfl (by omega) (by omega)) ?_
    first | refine juy (y_conv_fits rfl (by simp only [fits]; omega)) ?_
    refine juy (ysf rfl rfl) ?_; refine juz ?_; refine ju_nil ?_; refine jq_block ?_; refine jq_then ?_; refine jc_region ?_; refine jz ?_; refine jy (yaf rfl rfl) ?_; refine jz ?_; refine jl_nil ?_; refine jq_round3 (i := i) (j := ad) (l := cap) (i + 1) ad30 cap30 ?_ ?_ ?_
    ·omega
    ·exact ⟨rfl, lk_val rfl (by rw [Nat.mul_succ]), lk_int rfl (by omega), lk_int rfl (by omega), trivial⟩
    ·exact fun _ h => ⟨by omega, h.cast (by rw [show digL msg (i + 1) = digL msg i ++ [hAt msg i / 16, hAt msg i % 16] from rfl, ← map_two, Nat.mul_succ]; rfl)⟩
    )
  ·first | (exfalso; omega) | (
    refine jnt ?_; refine jc_false rfl ?_; refine jc_exit ?_; (iterate 2 refine jq_then_exit ?_); refine jq_hit ?_; refine jq_then ?_; refine jc_seq ?_
    have hi8 : i = 8 := by omega
    subst hi8
    have h240 : 240 - 30 * ((8 : Nat) : Int) + lackL msg 8 = lackL msg 8 := by omega
    refine jc_region ?_; (iterate 2 refine jz ?_); refine jy (y_quo rfl rfl (by omega) (by omega) (by simp only [fits]; omega)) ?_; refine jl_m rfl (by decide) rfl (m_buildSlice (by decide) (Built.cell rfl rfl rfl (by repeat constructor) Built.nil)) (fun b47 => ?_); refine jl_m2 rfl (by decide) rfl (m_append rfl rfl (by first | exact del0 | exact del1 | exact del2 | exact del3 | exact del4) (by first | exact del0 | exact del1 | exact del2 | exact del3 | exact del4) rfl (by omega) (by omega)) (fun ad48 cap48 => ?_); refine jz ?_; refine jnt ?_; refine jsr ?_; (iterate 2 refine jz ?_); refine jy (y_rem rfl rfl (by omega) (by omega)) ?_; refine jl_m rfl (by decide) rfl (m_buildSlice (by decide) (Built.cell rfl rfl rfl (by repeat constructor) Built.nil)) (fun b52 => ?_); refine jl_m2 rfl (by decide) rfl (m_append rfl rfl (by first | exact del0 | exact del1 | exact del2 | exact del3 | exact del4) (by first | exact del0 | exact del1 | exact del2 | exact del3 | exact del4) rfl (by omega) (by omega)) (fun ad53 cap53 => ?_); refine jz ?_; refine jnt ?_; refine jsr ?_; (iterate 2 refine jz ?_); refine jnt ?_; refine jc_ret ?_; refine jq_ret1 rfl rfl ?_
    exact fun w' hw => (by
     obtain ⟨b', rfl⟩ := row_some (hw.ok _ (List.mem_cons_self ..)) (by omega)
     exact ⟨(b', cap53), rfl, (hw.cast (by rw [h240, ← digs_end, ← map_one, ← map_one]; rfl)).fresh⟩)
    )

theorem rone_any (n : Int) (w : World) :
  Calls Tryz.prog 135 #[.int .i64 n] w fun e w' => e = .returned (.string (oneB n)) ∧ Ch [] w w' := by
 refine calls_of (n := 7) (E := [(0, .int .i64 n)]) (W := Hp w [] []) Tryz.func135 rfl rfl (Nat.le_of_ble_eq_true rfl) rfl (Hp.nil _ _) ?_; refine jsr ?_; refine jz ?_; refine jnt ?_; refine jsr ?_; refine jz ?_; refine jy (y_conv_u8 rfl) ?_; refine jl_m rfl (by decide) rfl (m_buildSlice (by decide) (Built.cell rfl rfl rfl (by repeat constructor) Built.nil)) (fun b5 => ?_); refine jy (y_str_own rfl (by first | exact mem0 | exact mem1 | exact mem2 | exact mem3 | exact mem4 | exact mem5) (by repeat constructor)) ?_; refine jz ?_; refine jnt ?_; refine jc_ret ?_; refine jq_ret1 rfl rfl ?_; exact fun _ hw => ⟨rfl, hw.ch⟩

theorem rstep6_any (p : Int) (x : ByteArray) (n : Int) (w : World) :
  Calls Tryz.prog 126 #[.int .i64 p, .string x, .int .i64 n] w fun e w' => e = .returned (.string (stepF p x n)) ∧ Ch [] w w' := by
 refine calls_of (n := 40) (E := [(0, .int .i64 p), (1, .string x), (2, .int .i64 n)]) (W := Hp w [] []) Tryz.func126 rfl rfl (Nat.le_of_ble_eq_true rfl) rfl (Hp.nil _ _) ?_; refine jsr ?_; refine jz ?_; refine jnt ?_; refine jc_seq ?_; refine jsr ?_; refine jz ?_; refine jy (y_lss rfl rfl) ?_; refine jl_prop (fun h10 => ?_) (fun h10 => ?_)
 ·first | (exfalso; omega) | (refine jz ?_; (iterate 2 refine jsk ?_); refine jy (y_pick_true rfl rfl) ?_; refine jz ?_; (iterate 3 refine jsk ?_); refine jy (y_pick_true rfl rfl) ?_; refine jz ?_; (iterate 2 refine jsk ?_); refine jy (y_pick_true rfl rfl) ?_; refine jz ?_; (iterate 2 refine jsk ?_); refine jy (y_pick_true rfl rfl) ?_; refine jnt ?_; refine jc_true rfl ?_; refine jsr ?_; refine jz ?_; refine jnt ?_; refine jc_ret ?_; refine jq_then_ret ?_; refine jq_ret1 rfl rfl ?_; exact fun _ hw => ⟨congrArg (fun z => Ending.returned (Value.string z)) (by first | (rw [stepF_neg (by omega)]) | (rw [stepF_pos (by omega)]; congr 1; omega)), hw.ch⟩)
 ·first | (exfalso; omega) | (
   (iterate 2 refine jz ?_); refine jy (y_gtr rfl rfl) ?_; refine jl_prop (fun h13 => ?_) (fun h13 => ?_)
   ·first | (exfalso; omega) | (refine jy (y_pick_false rfl rfl) ?_; refine jz ?_; (iterate 3 refine jsk ?_); refine jy (y_pick_true rfl rfl) ?_; refine jz ?_; (iterate 2 refine jsk ?_); refine jy (y_pick_true rfl rfl) ?_; refine jz ?_; (iterate 2 refine jsk ?_); refine jy (y_pick_true rfl rfl) ?_; refine jnt ?_; refine jc_true rfl ?_; refine jsr ?_; refine jz ?_; refine jnt ?_; refine jc_ret ?_; refine jq_then_ret ?_; refine jq_ret1 rfl rfl ?_; exact fun _ hw => ⟨congrArg (fun z => Ending.returned (Value.string z)) (by first | (rw [stepF_neg (by omega)]) | (rw [stepF_pos (by omega)]; congr 1; omega)), hw.ch⟩)
   ·first | (exfalso; omega) | (
     refine jy (y_pick_false rfl rfl) ?_; (iterate 2 refine jz ?_); refine jy (y_len_str rfl) ?_; refine jy (y_neq rfl rfl) ?_; refine jl_prop (fun h18 => ?_) (fun h18 => ?_)
     ·first | (exfalso; omega) | (refine jy (y_pick_false rfl rfl) ?_; refine jz ?_; (iterate 2 refine jsk ?_); refine jy (y_pick_true rfl rfl) ?_; refine jz ?_; (iterate 2 refine jsk ?_); refine jy (y_pick_true rfl rfl) ?_; refine jnt ?_; refine jc_true rfl ?_; refine jsr ?_; refine jz ?_; refine jnt ?_; refine jc_ret ?_; refine jq_then_ret ?_; refine jq_ret1 rfl rfl ?_; exact fun _ hw => ⟨congrArg (fun z => Ending.returned (Value.string z)) (by first | (rw [stepF_neg (by omega)]) | (rw [stepF_pos (by omega)]; congr 1; omega)), hw.ch⟩)
     ·first | (exfalso; omega) | (
       refine jy (y_pick_false rfl rfl) ?_; (iterate 2 refine jz ?_); refine jy (y_lss rfl rfl) ?_; refine jl_prop (fun h22 => ?_) (fun h22 => ?_)
       ·first | (exfalso; omega) | (refine jy (y_pick_false rfl rfl) ?_; refine jz ?_; (iterate 2 refine jsk ?_); refine jy (y_pick_true rfl rfl) ?_; refine jnt ?_; refine jc_true rfl ?_; refine jsr ?_; refine jz ?_; refine jnt ?_; refine jc_ret ?_; refine jq_then_ret ?_; refine jq_ret1 rfl rfl ?_; exact fun _ hw => ⟨congrArg (fun z => Ending.returned (Value.string z)) (by first | (rw [stepF_neg (by omega)]) | (rw [stepF_pos (by omega)]; congr 1; omega)), hw.ch⟩)
       ·first | (exfalso; omega) | (
         refine jy (y_pick_false rfl rfl) ?_; (iterate 2 refine jz ?_); refine jy (y_gtr rfl rfl) ?_; refine jl_prop (fun h26 => ?_) (fun h26 => ?_)
         ·first | (exfalso; omega) | (refine jy (y_pick_false rfl rfl) ?_; refine jnt ?_; refine jc_true rfl ?_; refine jsr ?_; refine jz ?_; refine jnt ?_; refine jc_ret ?_; refine jq_then_ret ?_; refine jq_ret1 rfl rfl ?_; exact fun _ hw => ⟨congrArg (fun z => Ending.returned (Value.string z)) (by first | (rw [stepF_neg (by omega)]) | (rw [stepF_pos (by omega)]; congr 1; omega)), hw.ch⟩)
         ·first | (exfalso; omega) | (
           refine jy (y_pick_false rfl rfl) ?_; refine jnt ?_; refine jc_false rfl ?_; refine jc_skip ?_; refine jq_then ?_; refine jc_seq ?_
           have hx16 : x.size = 16 := by omega
           refine jc_region ?_; (iterate 2 refine jz ?_); refine jnt ?_; refine jc_seq ?_; refine jsr ?_; refine jz ?_; refine jnt ?_; refine jc_block ?_; refine jc_loop (fun (i : Nat) => [(0, .int .i64 p), (2, .int .i64 n), (7, .string (stepN p x i)), (8, .int .i64 (i : Nat))]) (fun (i : Nat) => fun w' => i ≤ n.toNat ∧ Hp w [] [] w') (fun (i : Nat) => n.toNat - i) 0 ?_ ?_ ?_
           ·exact ⟨rfl, rfl, rfl, rfl, trivial⟩
           ·exact fun _ h => ⟨by omega, h⟩
           ·intro i
            refine jc_and (fun hi => ?_); refine jc_seq ?_; refine jsr ?_; (iterate 2 refine jz ?_); refine jy (y_lss rfl rfl) ?_; refine jl_prop (fun h31 => ?_) (fun h31 => ?_)
            ·first | (exfalso; omega) | (
              refine jnt ?_; refine jc_true rfl ?_; refine jc_skip ?_; refine jq_then ?_; refine jc_seq ?_; refine jc_block ?_; refine jc_region ?_; refine jz ?_; refine jpc (goes_func rfl) (fun w1 hw1 => rone_any _ w1) ?_; refine jz ?_; refine jl_m rfl (by decide) rfl (m_buildSlice (by decide) (Built.cell rfl rfl rfl (by repeat constructor) (Built.cell rfl rfl rfl (by repeat constructor) Built.nil))) (fun b37 => ?_); refine jpc (goes_func rfl) (fun w1 hw1 => rtag_any strStep (some ⟨b37, 0, none⟩) 2 [oneB p, stepN p x i] w1 (by decide) (by simp) (all2 (by rw [oneB_size]; decide) (by rw [stepN_size p x hx16]; decide)) (Strs.of_row (hw1.get mem0))) ?_; refine jz ?_; refine jl_nil ?_; refine jq_block ?_; refine jq_then ?_; refine jc_region ?_; refine jz ?_; refine jy (yaf rfl rfl) ?_; refine jz ?_; refine jl_nil ?_; refine jq_round (i := i) (i + 1) ?_ ?_ ?_
              ·omega
              ·exact ⟨rfl, rfl, rfl, lk_int rfl (by omega), trivial⟩
              ·exact fun _ h => ⟨by omega, h.part .nil⟩
              )
            ·first | (exfalso; omega) | (refine jnt ?_; refine jc_false rfl ?_; refine jc_exit ?_; (iterate 2 refine jq_then_exit ?_); refine jq_hit ?_; refine jq_then ?_; refine jsr ?_; (iterate 2 refine jz ?_); refine jnt ?_; refine jc_ret ?_; refine jq_ret1 rfl rfl ?_; exact fun _ hw => ⟨congrArg (fun z => Ending.returned (Value.string z)) (by first | (rw [stepF_neg (by omega)]) | (rw [stepF_pos (by omega)]; congr 1; omega)), hw.ch⟩)
           )
         )
       )
     )
   )

theorem rfrom_any (msg sig : ByteArray) (w : World) (hm : msg.size ≤ 1000000) :
  Calls Tryz.prog 110 #[.string msg, .string sig] w fun e w' => e = .returned (.tuple #[.string (fromS msg sig), .int .i64 (fromE sig)]) ∧ Ch [] w w' := by
 refine calls_of (n := 37) (E := [(0, .string msg), (1, .string sig)]) (W := Hp w [] []) Tryz.func110 rfl rfl (Nat.le_of_ble_eq_true rfl) rfl (Hp.nil _ _) ?_; refine jsr ?_; (iterate 2 refine jz ?_); refine jnt ?_; refine jc_seq ?_; refine jsr ?_; refine jz ?_; refine jy (y_len_str rfl) ?_; refine jy (y_neq rfl rfl) ?_; refine jl_prop (fun h11 => ?_) (fun h11 => ?_)
 ·first | (exfalso; omega) | (refine jnt ?_; refine jc_true rfl ?_; refine jsr ?_; (iterate 2 refine jz ?_); refine jnt ?_; refine jc_ret ?_; refine jq_then_ret ?_; refine jq_ret2 rfl rfl rfl ?_; exact fun _ hw => ⟨by unfold fromS fromE; rw [if_neg (by omega), if_neg (by omega)], hw.ch⟩)
 ·first | (exfalso; omega) | (
   refine jnt ?_; refine jc_false rfl ?_; refine jc_skip ?_; refine jq_then ?_; refine jsr ?_; refine jz ?_; refine jl_fcall rfl (by decide) rfl (goes_func rfl) (fun w1 hw1 => rdigits_any _ w1 (by omega)) (fun pd => ?_); (iterate 2 refine jz ?_); refine jnt ?_; refine jc_seq ?_; refine jsr ?_; refine jz ?_; refine jnt ?_; refine jc_block ?_; refine jc_loop (fun (i : Nat) => [(1, .string sig), (6, .slice (some ⟨pd.1, 0, none⟩) 18 pd.2), (7, .string (fromAll msg sig i)), (8, .int .i64 (i : Nat))]) (fun (i : Nat) => fun w' => i ≤ 18 ∧ Hp w [] [.row (some ⟨pd.1, 0, none⟩) (18) (pd.2) 3 1 ((digs msg).map (.int .i64))] w') (fun (i : Nat) => 18 - i) 0 ?_ ?_ ?_
   ·exact ⟨rfl, rfl, rfl, rfl, trivial⟩
   ·exact fun _ h => ⟨by omega, h⟩
   ·intro i
    refine jc_and (fun hi => ?_)
    have hsz := fromAll_size msg sig i
    have hst := stepF_small (i : Int) (partAt sig i) (15 - dig msg i)
    have hdg := dig_range msg i
    refine jc_seq ?_; refine jsr ?_; refine jz ?_; refine jy (y_lss rfl rfl) ?_; refine jl_prop (fun h15 => ?_) (fun h15 => ?_)
    ·first | (exfalso; omega) | (
      refine jnt ?_; refine jc_true rfl ?_; refine jc_skip ?_; refine jq_then ?_; refine jc_seq ?_; refine jc_block ?_; refine jc_draw (by kernel_rfl) (fun _ h => h.drew) ?_; (iterate 4 refine juz ?_); refine juy (y_mul_fits rfl rfl (by simp only [fits]; omega)) ?_; refine juz ?_; refine juy (y_mul_fits rfl rfl (by simp only [fits]; omega)) ?_; refine juy (yaf rfl rfl) ?_; refine juy (y_substr rfl rfl rfl (by omega) (by omega) (by omega)) ?_; refine ju_as (u := .string (partAt sig i)) (congrArg Value.string (by unfold partAt; congr 1 <;> omega)) ?_; (iterate 2 refine juz ?_); refine juy (y_indexAddr_slice (off := i) rfl rfl (by omega) (by omega) (by omega)) ?_; refine juy (y_load_row rfl mem0 (map_getI _ _ (by rw [digs_length]; omega))) ?_; refine ju_as (u := .int .i64 (dig msg i)) rfl ?_; refine juy (ysf rfl rfl) ?_; refine ju_call rfl (by decide) rfl (goes_func rfl) (fun w1 hw1 => pcall hw1 (rstep6_any _ _ _ w1)) ?_; refine juy (y_concat rfl rfl (by omega)) ?_; refine juz ?_; refine ju_nil ?_; refine jq_block ?_; refine jq_then ?_; refine jc_region ?_; refine jz ?_; refine jy (yaf rfl rfl) ?_; refine jz ?_; refine jl_nil ?_; refine jq_round (i := i) (i + 1) ?_ ?_ ?_
      ·omega
      ·exact ⟨rfl, rfl, rfl, lk_int rfl (by omega), trivial⟩
      ·exact fun _ h => ⟨by omega, h⟩
      )
    ·first | (exfalso; omega) | (
      refine jnt ?_; refine jc_false rfl ?_; refine jc_exit ?_; (iterate 2 refine jq_then_exit ?_); refine jq_hit ?_; refine jq_then ?_; refine jc_seq ?_
      have e18 : i = 18 := by omega
      subst e18
      refine jc_region ?_; refine jz ?_; refine jl_m rfl (by decide) rfl (m_buildSlice (by decide) (Built.cell rfl rfl rfl (by repeat constructor) Built.nil)) (fun b35 => ?_); refine jpc (goes_func rfl) (fun w1 hw1 => rtag_any strPublic (some ⟨b35, 0, none⟩) 1 [fromAll msg sig 18] w1 (by decide) (by simp) (all1 (by have := fromAll_size msg sig 18; omega)) (Strs.of_row (hw1.get mem0))) ?_; (iterate 2 refine jz ?_); refine jnt ?_; refine jc_ret ?_; refine jq_ret2 rfl rfl rfl ?_; exact fun _ hw => ⟨by unfold fromS fromE; rw [if_pos (by omega), if_pos (by omega)], hw.ch⟩
      )
   )

end Go.Proofs.YtghomncegjamfaaGreat

namespace Go.Proofs.YtghomncegjamfaaGreat
open Go.RowKit
set_option maxRecDepth 100000
set_option linter.unusedVariables false
set_option linter.unusedSimpArgs false
attribute [local irreducible] Yields Makes Writes
def tallV (l : List ByteArray) : Int := if okL l then (tallL l : Nat) else -1
theorem tallV_ok {l : List ByteArray} (h : okL l) : tallV l = (tallL l : Nat) := by unfold tallV; rw [if_pos h]
theorem tallV_bad {l : List ByteArray} (h : ¬ okL l) : tallV l = -1 := by unfold tallV; rw [if_neg h]
theorem tallV_odd {l : List ByteArray} {i : Nat} (hi : i < l.length) (h : (at0 l i).size ≠ 16) : tallV l = -1 := tallV_bad fun h2 => h (h2.2 _ (at0_mem hi))
theorem all16 {l : List ByteArray} {i : Nat} (h : ∀ j, j < i → (at0 l j).size = 16) (hi : i = l.length) : ∀ p ∈ l, p.size = 16 := fun p hp => by
  obtain ⟨j, hj⟩ := List.getElem?_of_mem hp
  have hl := (List.getElem?_eq_some_iff.1 hj).1
  have := h j (by omega)
  rwa [at0_eq hj] at this
theorem tallV_eq {l : List ByteArray} {n h : Nat} (hs : ∀ p ∈ l, p.size = 16) (hn : l.length = n) (hok : okN n) (ht : tallN n = h) : tallV l = ((h : Nat) : Int) := by
  rw [tallV_ok ⟨by rw [hn]; exact hok, hs⟩, tallL, hn, ht]
theorem tallV_none {l : List ByteArray} (h : ¬ okN l.length) : tallV l = -1 := tallV_bad fun h2 => h h2.1

theorem r7one_any (n : Int) (w : World) :
  Calls Tryz.prog 111 #[.int .i64 n] w fun e w' => e = .returned (.string (oneB n)) ∧ Ch [] w w' := by
 refine calls_of (n := 7) (E := [(0, .int .i64 n)]) (W := Hp w [] []) Tryz.func111 rfl rfl (Nat.le_of_ble_eq_true rfl) rfl (Hp.nil _ _) ?_; refine jsr ?_; refine jz ?_; refine jnt ?_; refine jsr ?_; refine jz ?_; refine jy (y_conv_u8 rfl) ?_; refine jl_m rfl (by decide) rfl (m_buildSlice (by decide) (Built.cell rfl rfl rfl (by repeat constructor) Built.nil)) (fun b5 => ?_); refine jy (y_str_own rfl (by first | exact mem0 | exact mem1 | exact mem2 | exact mem3 | exact mem4 | exact mem5) (by repeat constructor)) ?_; refine jl_as (u := .string (oneB n)) rfl ?_; refine jz ?_; refine jnt ?_; refine jc_ret ?_; refine jq_ret1 rfl rfl ?_; exact fun _ hw => ⟨rfl, hw.ch⟩

end Go.Proofs.YtghomncegjamfaaGreat

namespace Go.Proofs.YtghomncegjamfaaGreat
open Go.RowKit
set_option maxRecDepth 100000
set_option linter.unusedVariables false
set_option linter.unusedSimpArgs false
attribute [local irreducible] Yields Makes Writes
theorem row_even {l : List ByteArray} {h k : Nat} (hl : l.length = 2 ^ h) (hk : k < h) : (rowN l k).length % 2 = 0 := by
  rw [row_pow hl (Nat.le_of_lt hk), show h - k = (h - k - 1) + 1 by omega, Nat.pow_succ]
  exact Nat.mul_mod_left _ _
theorem rows_apart {w0 w : World} {S : List Nat} {H : List HA} {a a' : Option Addr} {n c e s n' c' e' s' : Nat} {xs xs' : List Value} (h : Hp w0 S (.row a n c e s xs :: .row a' n' c' e' s' xs' :: H) w) : ∀ b o, a = some ⟨b, o, none⟩ → b ∉ rowBlk a' := fun b o e hm => by
  obtain ⟨o2, b2, e2⟩ := rowBlk_mem hm
  refine (List.pairwise_cons.1 h.apart).1 _ (.head _) b ?_ ?_
  · subst e; rfl
  · subst e2; rfl
theorem rowBlk_own {w : World} {a : Option Addr} {n c e s : Nat} {xs : List Value} : ∀ k ∈ rowBlk a, ∃ A ∈ [HA.row a n c e s xs], A.foot = some k := fun k hk => by
  obtain ⟨o, b, rfl⟩ := rowBlk_mem hk
  exact ⟨_, .head _, rfl⟩
theorem feet_one {a : Option Addr} {n c e s : Nat} {xs : List Value} : ∀ A ∈ [HA.row a n c e s xs], ∀ k, A.foot = some k → k ∈ rowBlk a := fun A hA k hk => by
  rw [List.mem_singleton.1 hA] at hk
  exact rowBlk_foot hk
def hf (i k : Nat) : Nat := i / 2 ^ k
theorem hf_zero (i : Nat) : hf i 0 = i := by simp [hf]
theorem hf_step (i k : Nat) : ((hf i k : Nat) : Int) / 2 = ((hf i (k + 1) : Nat) : Int) := half_step i k
theorem idx_pow {j n : Nat} (h : ¬ 0 < ((hf j n : Nat) : Int)) : (j : Int) < ((2 ^ n : Nat) : Int) := by
  have h1 : hf j n = 0 := by omega
  have h2 := (Nat.div_eq_zero_iff_lt (Nat.two_pow_pos n)).1 h1
  omega
theorem idx_pow' {j n : Nat} (h : 0 < ((hf j n : Nat) : Int)) : ¬ (j : Int) < ((2 ^ n : Nat) : Int) := fun h3 => by
  have h1 : hf j n = 0 := (Nat.div_eq_zero_iff_lt (Nat.two_pow_pos n)).2 (by omega)
  omega
theorem mod_nat {d : Nat} (h : ((d : Nat) : Int) % 2 = 0) : d % 2 = 0 := by omega
theorem mod_nat' {d : Nat} (h : ¬ ((d : Nat) : Int) % 2 = 0) : ¬ d % 2 = 0 := by omega

end Go.Proofs.YtghomncegjamfaaGreat
