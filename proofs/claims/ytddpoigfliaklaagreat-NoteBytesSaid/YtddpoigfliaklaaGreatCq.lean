/- The walks of the reference's reader of parts. Written by program (walk.py) out of a table of contracts and invariants. -/
import Derived.Test.YtddpoigfliaklaaGreatCp
namespace Go.Proofs.YtddpoigfliaklaaGreat
open Go.RowKit
set_option maxRecDepth 100000
set_option linter.unusedVariables false
set_option linter.unusedSimpArgs false
theorem tk_none {S : ByteArray} {x : RS} {n : Nat} (hn : 0 < n) : tkV S x n = ⟨#[]⟩ ↔ (tkS S x n).2 ≠ 0 := by
  by_cases h0 : x.2 = 0
  · by_cases h1 : x.1 + n ≤ S.size
    · obtain ⟨h2, h3⟩ := tk_yes (S := S) (x := x) (n := n) h0 h1
      rw [h2, h3]
      constructor
      · intro h; have := eq_size h; rw [ByteArray.size_extract] at this; omega
      · intro h; exact absurd rfl h
    · obtain ⟨h2, h3⟩ := tk_short (S := S) (x := x) (n := n) h0 h1
      rw [h2, h3]; simp
  · obtain ⟨h2, h3⟩ := tk_bad (S := S) (x := x) (n := n) h0
    rw [h2, h3]; simpa using h0
theorem tk_empty {S : ByteArray} {x : RS} {n : Nat} (h : ¬ (tkS S x n).2 = 0) : tkV S x n = ⟨#[]⟩ := by
  by_cases h0 : x.2 = 0
  · by_cases h1 : x.1 + n ≤ S.size
    · rw [(tk_yes (S := S) (x := x) (n := n) h0 h1).2] at h; exact absurd rfl h
    · exact (tk_short (S := S) (x := x) (n := n) h0 h1).1
  · exact (tk_bad (S := S) (x := x) (n := n) h0).1

theorem qtake_any (b : Nat) (S : ByteArray) (x : RS) (n : Nat) (w : World) (hS : S.size ≤ 1000000000) (hok : okR S x) (hn : n ≤ 100000) (hA : HA.ok w (.cells b [.string S, .int .i64 ((x).1 : Nat), .int .i64 (x).2])) :
  Calls Tryz.prog 117 #[.pointer (some ⟨b, 0, none⟩), .int .i64 (n : Nat)] w fun e w' => e = .returned (.string (tkV S x n)) ∧ Upd w w' (.cells b [.string S, .int .i64 ((x).1 : Nat), .int .i64 (x).2]) (.cells b [.string S, .int .i64 ((tkS S x n).1 : Nat), .int .i64 (tkS S x n).2]) := by
 unfold okR at hok
 refine calls_of (n := 56) (E := [(0, .pointer (some ⟨b, 0, none⟩)), (1, .int .i64 (n : Nat))]) (W := Hp w [b] [.cells b [.string S, .int .i64 ((x).1 : Nat), .int .i64 (x).2]]) Tryz.func117 rfl rfl (Nat.le_of_ble_eq_true rfl) rfl (Hp.start rfl hA) ?_
 refine jsr ?_
 refine jz ?_
 refine jnt ?_
 refine jc_seq ?_
 refine jc_seq ?_
 refine jc_draw (by kernel_rfl) (fun _ h => h.drew) ?_
 refine juz ?_
 refine juz ?_
 refine juz ?_
 refine juz ?_
 refine juy (y_eql rfl rfl) ?_
 refine ju_prop (fun h9 => ?_) (fun h9 => ?_)
 ·first
  | (exfalso; omega)
  | (
   refine juz ?_
   refine juz ?_
   refine juz ?_
   refine juz ?_
   refine juz ?_
   refine juy (y_len_str rfl) ?_
   refine juz ?_
   refine juz ?_
   refine juz ?_
   refine juz ?_
   refine juy (y_sub_fits rfl rfl (by simp only [fits]; omega)) ?_
   refine juz ?_
   refine juy (y_lss rfl rfl) ?_
   refine ju_prop (fun h22 => ?_) (fun h22 => ?_)
   ·first
    | (exfalso; omega)
    | (
     refine juy (y_pick_true rfl rfl) ?_
     refine ju_nil ?_
     refine jq_then ?_
     refine jc_true rfl ?_
     refine jc_region ?_
     refine jz ?_
     refine jz ?_
     refine jz ?_
     refine jst ?_
     refine jnt ?_
     refine jc_seq ?_
     refine jsr ?_
     refine jz ?_
     refine jz ?_
     refine jz ?_
     refine jz ?_
     refine jy (y_neq rfl rfl) ?_
     refine jl_prop (fun h31 => ?_) (fun h31 => ?_)
     ·first
      | (exfalso; omega)
      | (
       refine jnt ?_
       refine jc_true rfl ?_
       refine jsr ?_
       refine jz ?_
       refine jnt ?_
       refine jc_ret ?_
       refine jq_then_ret ?_
       refine jq_ret1 rfl rfl ?_
       exact fun w' hw => ⟨by first | rw [(tk_short (S := S) (x := x) (n := n) (by omega) (by omega)).1] | rw [(tk_bad (S := S) (x := x) (n := n) (by omega)).1], by first | (rw [(tk_short (S := S) (x := x) (n := n) (by omega) (by omega)).2]; exact hw.updd rfl) | (rw [(tk_bad (S := S) (x := x) (n := n) (by omega)).2]; exact hw.updd rfl)⟩
       )
     ·first
      | (exfalso; omega)
      | (
       refine jnt ?_
       refine jc_false rfl ?_
       refine jc_skip ?_
       refine jq_then ?_
       refine jsr ?_
       refine jz ?_
       refine jz ?_
       refine jz ?_
       refine jz ?_
       refine jz ?_
       refine jz ?_
       refine jy (y_add_fits rfl rfl (by simp only [fits]; omega)) ?_
       refine jz ?_
       refine jz ?_
       refine jst ?_
       refine jnt ?_
       refine jc_seq ?_
       refine jc_draw (by kernel_rfl) (fun _ h => h.drew) ?_
       refine juz ?_
       refine juz ?_
       refine juz ?_
       refine juz ?_
       refine juz ?_
       refine juz ?_
       refine juz ?_
       refine juz ?_
       refine juz ?_
       refine juy (y_sub_fits rfl rfl (by simp only [fits]; omega)) ?_
       refine juz ?_
       refine juz ?_
       refine juz ?_
       refine juz ?_
       refine juy (y_substr rfl rfl rfl (by omega) (by omega) (by omega)) ?_
       refine ju_as (u := .string (S.extract x.1 (x.1 + n))) (congrArg Value.string (by congr 1 <;> omega)) ?_
       refine juz ?_
       refine ju_nil ?_
       refine jq_then ?_
       refine jc_ret ?_
       refine jq_ret1 rfl rfl ?_
       exact fun w' hw => (by have ht := tk_yes (S := S) (x := x) (n := n) (by omega) (by omega); have h0 : x.2 = 0 := (by omega); exact ⟨by rw [ht.1], by rw [ht.2]; rw [h0] at hw; exact hw.updd (A := .cells b [.string S, .int .i64 ((x).1 : Nat), .int .i64 (x).2]) rfl⟩)
       )
     )
   ·first
    | (exfalso; omega)
    | (
     refine juy (y_pick_true rfl rfl) ?_
     refine ju_nil ?_
     refine jq_then ?_
     refine jc_false rfl ?_
     refine jc_skip ?_
     refine jq_then ?_
     refine jc_seq ?_
     refine jsr ?_
     refine jz ?_
     refine jz ?_
     refine jz ?_
     refine jz ?_
     refine jy (y_neq rfl rfl) ?_
     refine jl_prop (fun h31 => ?_) (fun h31 => ?_)
     ·first
      | (exfalso; omega)
      | (
       refine jnt ?_
       refine jc_true rfl ?_
       refine jsr ?_
       refine jz ?_
       refine jnt ?_
       refine jc_ret ?_
       refine jq_then_ret ?_
       refine jq_ret1 rfl rfl ?_
       exact fun w' hw => ⟨by first | rw [(tk_short (S := S) (x := x) (n := n) (by omega) (by omega)).1] | rw [(tk_bad (S := S) (x := x) (n := n) (by omega)).1], by first | (rw [(tk_short (S := S) (x := x) (n := n) (by omega) (by omega)).2]; exact hw.updd rfl) | (rw [(tk_bad (S := S) (x := x) (n := n) (by omega)).2]; exact hw.updd rfl)⟩
       )
     ·first
      | (exfalso; omega)
      | (
       refine jnt ?_
       refine jc_false rfl ?_
       refine jc_skip ?_
       refine jq_then ?_
       refine jsr ?_
       refine jz ?_
       refine jz ?_
       refine jz ?_
       refine jz ?_
       refine jz ?_
       refine jz ?_
       refine jy (y_add_fits rfl rfl (by simp only [fits]; omega)) ?_
       refine jz ?_
       refine jz ?_
       refine jst ?_
       refine jnt ?_
       refine jc_seq ?_
       refine jc_draw (by kernel_rfl) (fun _ h => h.drew) ?_
       refine juz ?_
       refine juz ?_
       refine juz ?_
       refine juz ?_
       refine juz ?_
       refine juz ?_
       refine juz ?_
       refine juz ?_
       refine juz ?_
       refine juy (y_sub_fits rfl rfl (by simp only [fits]; omega)) ?_
       refine juz ?_
       refine juz ?_
       refine juz ?_
       refine juz ?_
       refine juy (y_substr rfl rfl rfl (by omega) (by omega) (by omega)) ?_
       refine ju_as (u := .string (S.extract x.1 (x.1 + n))) (congrArg Value.string (by congr 1 <;> omega)) ?_
       refine juz ?_
       refine ju_nil ?_
       refine jq_then ?_
       refine jc_ret ?_
       refine jq_ret1 rfl rfl ?_
       exact fun w' hw => (by have ht := tk_yes (S := S) (x := x) (n := n) (by omega) (by omega); have h0 : x.2 = 0 := (by omega); exact ⟨by rw [ht.1], by rw [ht.2]; rw [h0] at hw; exact hw.updd (A := .cells b [.string S, .int .i64 ((x).1 : Nat), .int .i64 (x).2]) rfl⟩)
       )
     )
   )
 ·first
  | (exfalso; omega)
  | (
   refine juz ?_
   refine ju_skip rfl (by decide) rfl ?_
   refine ju_skip rfl (by decide) rfl ?_
   refine ju_skip rfl (by decide) rfl ?_
   refine ju_skip rfl (by decide) rfl ?_
   refine ju_skip rfl (by decide) rfl ?_
   refine ju_skip rfl (by decide) rfl ?_
   refine ju_skip rfl (by decide) rfl ?_
   refine ju_skip rfl (by decide) rfl ?_
   refine ju_skip rfl (by decide) rfl ?_
   refine ju_skip rfl (by decide) rfl ?_
   refine ju_skip rfl (by decide) rfl ?_
   refine ju_skip rfl (by decide) rfl ?_
   refine juy (y_pick_false rfl rfl) ?_
   refine ju_nil ?_
   refine jq_then ?_
   refine jc_false rfl ?_
   refine jc_skip ?_
   refine jq_then ?_
   refine jc_seq ?_
   refine jsr ?_
   refine jz ?_
   refine jz ?_
   refine jz ?_
   refine jz ?_
   refine jy (y_neq rfl rfl) ?_
   refine jl_prop (fun h31 => ?_) (fun h31 => ?_)
   ·first
    | (exfalso; omega)
    | (
     refine jnt ?_
     refine jc_true rfl ?_
     refine jsr ?_
     refine jz ?_
     refine jnt ?_
     refine jc_ret ?_
     refine jq_then_ret ?_
     refine jq_ret1 rfl rfl ?_
     exact fun w' hw => ⟨by first | rw [(tk_short (S := S) (x := x) (n := n) (by omega) (by omega)).1] | rw [(tk_bad (S := S) (x := x) (n := n) (by omega)).1], by first | (rw [(tk_short (S := S) (x := x) (n := n) (by omega) (by omega)).2]; exact hw.updd rfl) | (rw [(tk_bad (S := S) (x := x) (n := n) (by omega)).2]; exact hw.updd rfl)⟩
     )
   ·first
    | (exfalso; omega)
    | (
     refine jnt ?_
     refine jc_false rfl ?_
     refine jc_skip ?_
     refine jq_then ?_
     refine jsr ?_
     refine jz ?_
     refine jz ?_
     refine jz ?_
     refine jz ?_
     refine jz ?_
     refine jz ?_
     refine jy (y_add_fits rfl rfl (by simp only [fits]; omega)) ?_
     refine jz ?_
     refine jz ?_
     refine jst ?_
     refine jnt ?_
     refine jc_seq ?_
     refine jc_draw (by kernel_rfl) (fun _ h => h.drew) ?_
     refine juz ?_
     refine juz ?_
     refine juz ?_
     refine juz ?_
     refine juz ?_
     refine juz ?_
     refine juz ?_
     refine juz ?_
     refine juz ?_
     refine juy (y_sub_fits rfl rfl (by simp only [fits]; omega)) ?_
     refine juz ?_
     refine juz ?_
     refine juz ?_
     refine juz ?_
     refine juy (y_substr rfl rfl rfl (by omega) (by omega) (by omega)) ?_
     refine ju_as (u := .string (S.extract x.1 (x.1 + n))) (congrArg Value.string (by congr 1 <;> omega)) ?_
     refine juz ?_
     refine ju_nil ?_
     refine jq_then ?_
     refine jc_ret ?_
     refine jq_ret1 rfl rfl ?_
     exact fun w' hw => (by have ht := tk_yes (S := S) (x := x) (n := n) (by omega) (by omega); have h0 : x.2 = 0 := (by omega); exact ⟨by rw [ht.1], by rw [ht.2]; rw [h0] at hw; exact hw.updd (A := .cells b [.string S, .int .i64 ((x).1 : Nat), .int .i64 (x).2]) rfl⟩)
     )
   )

theorem qbyte_any (b : Nat) (S : ByteArray) (x : RS) (w : World) (hS : S.size ≤ 1000000000) (hok : okR S x) (hA : HA.ok w (.cells b [.string S, .int .i64 ((x).1 : Nat), .int .i64 (x).2])) :
  Calls Tryz.prog 68 #[.pointer (some ⟨b, 0, none⟩)] w fun e w' => e = .returned (.int .i64 (byV S x)) ∧ Upd w w' (.cells b [.string S, .int .i64 ((x).1 : Nat), .int .i64 (x).2]) (.cells b [.string S, .int .i64 ((byS S x).1 : Nat), .int .i64 (byS S x).2]) := by
 have hsz := tkV_size S x 1
 have hhr := head_range (tkV S x 1)
 refine calls_of (n := 11) (E := [(0, .pointer (some ⟨b, 0, none⟩))]) (W := Hp w [b] [.cells b [.string S, .int .i64 ((x).1 : Nat), .int .i64 (x).2]]) Tryz.func68 rfl rfl (Nat.le_of_ble_eq_true rfl) rfl (Hp.start rfl hA) ?_
 refine jsr ?_
 refine jz ?_
 refine jnt ?_
 refine jsr ?_
 refine jz ?_
 refine juc (goes_func rfl) (fun w1 hw1 => qtake_any b S (x) 1 w1 hS hok (by first | decide | omega) hw1) ?_
 refine jz ?_
 refine jnt ?_
 refine jc_seq ?_
 refine jsr ?_
 refine jz ?_
 refine jy (y_seql rfl rfl) ?_
 refine jl_prop (fun h7 => ?_) (fun h7 => ?_)
 ·skip
  refine jnt ?_
  refine jc_true rfl ?_
  refine jsr ?_
  refine jz ?_
  refine jnt ?_
  refine jc_ret ?_
  refine jq_then_ret ?_
  refine jq_ret1 rfl rfl ?_
  exact fun w' hw => ⟨by unfold byV; rw [show tkV S x 1 = ⟨#[]⟩ by assumption]; rfl, hw.updd rfl⟩
 ·skip
  have hne := ne_size (by assumption)
  refine jnt ?_
  refine jc_false rfl ?_
  refine jc_skip ?_
  refine jq_then ?_
  refine jsr ?_
  refine jz ?_
  refine jy (y_at_str rfl rfl (by omega) (by omega)) ?_
  refine jl_as (u := .int .u8 (head (tkV S x 1))) (congrArg (Value.int .u8) (bAt_ints (tkV S x 1) 0)) ?_
  first | refine jy (y_conv_fits rfl (by simp only [fits]; omega)) ?_
  refine jz ?_
  refine jnt ?_
  refine jc_ret ?_
  refine jq_ret1 rfl rfl ?_
  exact fun w' hw => ⟨rfl, hw.updd rfl⟩

theorem qnum_any (b : Nat) (S : ByteArray) (x : RS) (w : World) (hS : S.size ≤ 1000000000) (hok : okR S x) (hA : HA.ok w (.cells b [.string S, .int .i64 ((x).1 : Nat), .int .i64 (x).2])) :
  Calls Tryz.prog 66 #[.pointer (some ⟨b, 0, none⟩)] w fun e w' => e = .returned (.int .u64 (nuV S x)) ∧ Upd w w' (.cells b [.string S, .int .i64 ((x).1 : Nat), .int .i64 (x).2]) (.cells b [.string S, .int .i64 ((nuS S x).1 : Nat), .int .i64 (nuS S x).2]) := by
 refine calls_of (n := 12) (E := [(0, .pointer (some ⟨b, 0, none⟩))]) (W := Hp w [b] [.cells b [.string S, .int .i64 ((x).1 : Nat), .int .i64 (x).2]]) Tryz.func66 rfl rfl (Nat.le_of_ble_eq_true rfl) rfl (Hp.start rfl hA) ?_
 refine jsr ?_
 refine jz ?_
 refine jnt ?_
 refine jsr ?_
 refine jz ?_
 refine juc (goes_func rfl) (fun w1 hw1 => qtake_any b S (x) 8 w1 hS hok (by first | decide | omega) hw1) ?_
 refine jpc (goes_func rfl) (fun w1 hw1 => rget_any (tkV S x 8) w1 (by have := tkV_size S x 8; omega)) ?_
 refine jz ?_
 refine jz ?_
 refine jz ?_
 refine jz ?_
 refine jz ?_
 refine jnt ?_
 refine jsr ?_
 refine jz ?_
 refine jz ?_
 refine jnt ?_
 refine jc_ret ?_
 refine jq_ret1 rfl rfl ?_
 exact fun w' hw => ⟨rfl, hw.updd rfl⟩

theorem qhash_any (b : Nat) (S : ByteArray) (x : RS) (w : World) (hS : S.size ≤ 1000000000) (hok : okR S x) (hA : HA.ok w (.cells b [.string S, .int .i64 ((x).1 : Nat), .int .i64 (x).2])) :
  Calls Tryz.prog 69 #[.pointer (some ⟨b, 0, none⟩)] w fun e w' => e = .returned (.string (haV S x)) ∧ Upd w w' (.cells b [.string S, .int .i64 ((x).1 : Nat), .int .i64 (x).2]) (.cells b [.string S, .int .i64 ((haS S x).1 : Nat), .int .i64 (haS S x).2]) := by
 refine calls_of (n := 5) (E := [(0, .pointer (some ⟨b, 0, none⟩))]) (W := Hp w [b] [.cells b [.string S, .int .i64 ((x).1 : Nat), .int .i64 (x).2]]) Tryz.func69 rfl rfl (Nat.le_of_ble_eq_true rfl) rfl (Hp.start rfl hA) ?_
 refine jsr ?_
 refine jz ?_
 refine jnt ?_
 refine jsr ?_
 refine jz ?_
 refine juc (goes_func rfl) (fun w1 hw1 => qtake_any b S (x) 16 w1 hS hok (by first | decide | omega) hw1) ?_
 refine jz ?_
 refine jnt ?_
 refine jc_ret ?_
 refine jq_ret1 rfl rfl ?_
 exact fun w' hw => ⟨rfl, hw.updd rfl⟩

theorem qblob_any (b : Nat) (S : ByteArray) (x : RS) (most : Int) (w : World) (hS : S.size ≤ 1000000000) (hok : okR S x) (hA : HA.ok w (.cells b [.string S, .int .i64 ((x).1 : Nat), .int .i64 (x).2])) :
  Calls Tryz.prog 67 #[.pointer (some ⟨b, 0, none⟩), .int .i64 most] w fun e w' => e = .returned (.string (blV S x most)) ∧ Upd w w' (.cells b [.string S, .int .i64 ((x).1 : Nat), .int .i64 (x).2]) (.cells b [.string S, .int .i64 ((blS S x most).1 : Nat), .int .i64 (blS S x most).2]) := by
 have hlr := lenV_range S x
 have hl2 := lenV_two S x
 have hok2 := tkS_ok (n := 2) hok
 have hsz := tkV_size S x 2
 have hno := tk_none (S := S) (x := x) (n := 2) (by decide)
 refine calls_of (n := 48) (E := [(0, .pointer (some ⟨b, 0, none⟩)), (1, .int .i64 most)]) (W := Hp w [b] [.cells b [.string S, .int .i64 ((x).1 : Nat), .int .i64 (x).2]]) Tryz.func67 rfl rfl (Nat.le_of_ble_eq_true rfl) rfl (Hp.start rfl hA) ?_
 refine jsr ?_
 refine jz ?_
 refine jnt ?_
 refine jsr ?_
 refine jz ?_
 refine jz ?_
 refine jz ?_
 refine jz ?_
 refine jz ?_
 refine jnt ?_
 refine jsr ?_
 refine jz ?_
 refine juc (goes_func rfl) (fun w1 hw1 => qtake_any b S (x) 2 w1 hS hok (by first | decide | omega) hw1) ?_
 refine jz ?_
 refine jnt ?_
 refine jc_seq ?_
 refine jsr ?_
 refine jz ?_
 refine jy (y_seql rfl rfl) ?_
 refine jl_prop (fun h16 => ?_) (fun h16 => ?_)
 ·skip
  have hz2 := hno.1 (by assumption)
  refine jnt ?_
  refine jc_true rfl ?_
  refine jsr ?_
  refine jz ?_
  refine jnt ?_
  refine jc_ret ?_
  refine jq_then_ret ?_
  refine jq_ret1 rfl rfl ?_
  exact fun w' hw => ⟨by unfold blV; rw [if_neg hz2], by unfold blS; rw [if_neg hz2]; exact hw.updd rfl⟩
 ·skip
  have hne := ne_size (by assumption)
  have hz2 : (tkS S x 2).2 = 0 := Decidable.byContradiction (fun h => absurd (hno.2 h) (by assumption))
  refine jnt ?_
  refine jc_false rfl ?_
  refine jc_skip ?_
  refine jq_then ?_
  refine jc_seq ?_
  have hi0 := ints_getD_range (tkV S x 2) 0
  have hi1 := ints_getD_range (tkV S x 2) 1
  refine jc_draw (by kernel_rfl) (fun _ h => h.drew) ?_
  refine juz ?_
  refine juy (y_at_str rfl rfl (by omega) (by omega)) ?_
  refine ju_as (u := .int .u8 ((ints (tkV S x 2)).getD 0 0)) (congrArg (Value.int .u8) (bAt_ints (tkV S x 2) 0)) ?_
  first | refine juy (y_conv_fits rfl (by simp only [fits]; omega)) ?_
  refine juy (y_mul_fits rfl rfl (by simp only [fits]; omega)) ?_
  refine juz ?_
  refine juy (y_at_str rfl rfl (by omega) (by omega)) ?_
  refine ju_as (u := .int .u8 ((ints (tkV S x 2)).getD 1 0)) (congrArg (Value.int .u8) (bAt_ints (tkV S x 2) 1)) ?_
  first | refine juy (y_conv_fits rfl (by simp only [fits]; omega)) ?_
  refine juy (y_add_fits rfl rfl (by simp only [fits]; omega)) ?_
  refine ju_as (u := .int .i64 ((lenV S x : Nat) : Int)) (congrArg (Value.int .i64) hl2.symm) ?_
  refine juz ?_
  refine ju_nil ?_
  refine jq_then ?_
  refine jc_seq ?_
  refine jsr ?_
  refine jz ?_
  refine jz ?_
  refine jy (y_gtr rfl rfl) ?_
  refine jl_prop (fun h27 => ?_) (fun h27 => ?_)
  ·first
   | (exfalso; omega)
   | (
    refine jz ?_
    refine jsk ?_
    refine jsk ?_
    refine jy (y_pick_true rfl rfl) ?_
    refine jnt ?_
    refine jc_true rfl ?_
    have hT : blT S x most = ((tkS S x 2).1, 5) := by unfold blT; rw [if_pos (by omega)]; unfold failE; rw [if_pos hz2]
    refine jc_region ?_
    refine jz ?_
    refine jz ?_
    refine jz ?_
    refine jst ?_
    refine jnt ?_
    refine jsr ?_
    refine jz ?_
    refine jz ?_
    refine jz ?_
    refine jz ?_
    refine jst ?_
    refine jnt ?_
    refine jsr ?_
    refine jz ?_
    refine jnt ?_
    refine jc_ret ?_
    refine jq_ret1 rfl rfl ?_
    exact fun w' hw => ⟨by unfold blV; rw [if_pos hz2, hT]; first | rw [(tk_bad (by simp)).1] | rw [tk_empty (by omega)], by unfold blS; rw [if_pos hz2, hT]; first | (rw [(tk_bad (S := S) (x := ((tkS S x 2).1, 5)) (n := lenV S x) (by simp)).2, if_neg (by simp)]; exact hw.updd (A := .cells b [.string S, .int .i64 ((x).1 : Nat), .int .i64 (x).2]) rfl) | (rw [if_neg (by omega)]; exact hw.updd (A := .cells b [.string S, .int .i64 ((x).1 : Nat), .int .i64 (x).2]) rfl)⟩
    )
  ·first
   | (exfalso; omega)
   | (
    refine jz ?_
    refine jz ?_
    refine jy (y_gtr rfl rfl) ?_
    refine jl_prop (fun h30 => ?_) (fun h30 => ?_)
    ·first
     | (exfalso; omega)
     | (
      refine jy (y_pick_false rfl rfl) ?_
      refine jnt ?_
      refine jc_true rfl ?_
      have hT : blT S x most = ((tkS S x 2).1, 5) := by unfold blT; rw [if_pos (by omega)]; unfold failE; rw [if_pos hz2]
      refine jc_region ?_
      refine jz ?_
      refine jz ?_
      refine jz ?_
      refine jst ?_
      refine jnt ?_
      refine jsr ?_
      refine jz ?_
      refine jz ?_
      refine jz ?_
      refine jz ?_
      refine jst ?_
      refine jnt ?_
      refine jsr ?_
      refine jz ?_
      refine jnt ?_
      refine jc_ret ?_
      refine jq_ret1 rfl rfl ?_
      exact fun w' hw => ⟨by unfold blV; rw [if_pos hz2, hT]; first | rw [(tk_bad (by simp)).1] | rw [tk_empty (by omega)], by unfold blS; rw [if_pos hz2, hT]; first | (rw [(tk_bad (S := S) (x := ((tkS S x 2).1, 5)) (n := lenV S x) (by simp)).2, if_neg (by simp)]; exact hw.updd (A := .cells b [.string S, .int .i64 ((x).1 : Nat), .int .i64 (x).2]) rfl) | (rw [if_neg (by omega)]; exact hw.updd (A := .cells b [.string S, .int .i64 ((x).1 : Nat), .int .i64 (x).2]) rfl)⟩
      )
    ·first
     | (exfalso; omega)
     | (
      refine jy (y_pick_false rfl rfl) ?_
      refine jnt ?_
      refine jc_false rfl ?_
      refine jc_seq ?_
      have hT : blT S x most = tkS S x 2 := by unfold blT; rw [if_neg (by omega)]
      refine jc_region ?_
      refine jz ?_
      refine jz ?_
      refine juc (goes_func rfl) (fun w1 hw1 => qtake_any b S (tkS S x 2) (lenV S x) w1 hS hok2 (by first | decide | omega) hw1) ?_
      refine jz ?_
      refine jnt ?_
      refine jsr ?_
      refine jz ?_
      refine jz ?_
      refine jz ?_
      refine jz ?_
      refine jy (y_eql rfl rfl) ?_
      refine jl_prop (fun h42 => ?_) (fun h42 => ?_)
      ·first
       | (exfalso; omega)
       | (
        refine jnt ?_
        refine jc_true rfl ?_
        refine jsr ?_
        refine jz ?_
        refine jz ?_
        refine jnt ?_
        refine jc_ret ?_
        refine jq_then_ret ?_
        refine jq_ret1 rfl rfl ?_
        exact fun w' hw => ⟨by unfold blV; rw [if_pos hz2, hT], by unfold blS; rw [if_pos hz2, hT, if_pos (by omega)]; exact hw.updd (A := .cells b [.string S, .int .i64 ((x).1 : Nat), .int .i64 (x).2]) rfl⟩
        )
      ·first
       | (exfalso; omega)
       | (
        refine jnt ?_
        refine jc_false rfl ?_
        refine jc_skip ?_
        refine jq_then ?_
        refine jsr ?_
        refine jz ?_
        refine jz ?_
        refine jz ?_
        refine jz ?_
        refine jst ?_
        refine jnt ?_
        refine jsr ?_
        refine jz ?_
        refine jnt ?_
        refine jc_ret ?_
        refine jq_ret1 rfl rfl ?_
        exact fun w' hw => ⟨by unfold blV; rw [if_pos hz2, hT]; first | rw [(tk_bad (by simp)).1] | rw [tk_empty (by omega)], by unfold blS; rw [if_pos hz2, hT]; first | (rw [(tk_bad (S := S) (x := ((tkS S x 2).1, 5)) (n := lenV S x) (by simp)).2, if_neg (by simp)]; exact hw.updd (A := .cells b [.string S, .int .i64 ((x).1 : Nat), .int .i64 (x).2]) rfl) | (rw [if_neg (by omega)]; exact hw.updd (A := .cells b [.string S, .int .i64 ((x).1 : Nat), .int .i64 (x).2]) rfl)⟩
        )
      )
    )

theorem qleft_any (b : Nat) (S : ByteArray) (x : RS) (w : World) (hS : S.size ≤ 1000000000) (hok : okR S x) (h0 : CellAt w b 0 (.string S)) (h1 : CellAt w b 1 (.int .i64 (x.1 : Nat))) :
  Calls Tryz.prog 118 #[.pointer (some ⟨b, 0, none⟩)] w fun e w' => e = .returned (.int .i64 ((S.size : Nat) - (x.1 : Nat) : Int)) ∧ Ch [] w w' := by
 unfold okR at hok
 refine calls_of (n := 13) (E := [(0, .pointer (some ⟨b, 0, none⟩))]) (W := Hp w [] []) Tryz.func118 rfl rfl (Nat.le_of_ble_eq_true rfl) rfl (Hp.nil _ _) ?_
 refine jsr ?_
 refine jz ?_
 refine jnt ?_
 refine jc_seq ?_
 refine jc_draw (by kernel_rfl) (fun _ h => h.drew) ?_
 refine juz ?_
 refine juz ?_
 refine juz ?_
 refine juy (y_load_old rfl h0 (by simp)) ?_
 refine juy (y_len_str rfl) ?_
 refine juz ?_
 refine juz ?_
 refine juz ?_
 refine juy (y_load_old rfl h1 (by simp)) ?_
 refine juy (y_sub_fits rfl rfl (by simp only [fits]; omega)) ?_
 refine juz ?_
 refine ju_nil ?_
 refine jq_then ?_
 refine jc_ret ?_
 refine jq_ret1 rfl rfl ?_
 exact fun _ hw => ⟨rfl, hw.ch⟩

theorem qend_any (b : Nat) (S : ByteArray) (x : RS) (w : World) (hS : S.size ≤ 1000000000) (hok : okR S x) (h0 : CellAt w b 0 (.string S)) (h1 : CellAt w b 1 (.int .i64 (x.1 : Nat))) (h2 : CellAt w b 2 (.int .i64 x.2)) :
  Calls Tryz.prog 70 #[.pointer (some ⟨b, 0, none⟩)] w fun e w' => e = .returned (.int .i64 (endE S x)) ∧ Ch [] w w' := by
 refine calls_of (n := 15) (E := [(0, .pointer (some ⟨b, 0, none⟩))]) (W := Hp w [] []) Tryz.func70 rfl rfl (Nat.le_of_ble_eq_true rfl) rfl (Hp.nil _ _) ?_
 refine jsr ?_
 refine jz ?_
 refine jnt ?_
 refine jc_seq ?_
 refine jsr ?_
 refine jz ?_
 refine jz ?_
 refine jz ?_
 refine jy (y_load_old rfl h2 (by simp)) ?_
 refine jy (y_neq rfl rfl) ?_
 refine jl_prop (fun h7 => ?_) (fun h7 => ?_)
 ·first
  | (exfalso; omega)
  | (
   refine jnt ?_
   refine jc_true rfl ?_
   refine jsr ?_
   refine jz ?_
   refine jz ?_
   refine jz ?_
   refine jy (y_load_old rfl h2 (by simp)) ?_
   refine jz ?_
   refine jnt ?_
   refine jc_ret ?_
   refine jq_then_ret ?_
   refine jq_ret1 rfl rfl ?_
   exact fun _ hw => ⟨by unfold endE; rw [if_neg (by omega)], hw.ch⟩
   )
 ·first
  | (exfalso; omega)
  | (
   refine jnt ?_
   refine jc_false rfl ?_
   refine jc_skip ?_
   refine jq_then ?_
   refine jc_seq ?_
   refine jsr ?_
   refine jz ?_
   refine jpc (goes_func rfl) (fun w1 hw1 => qleft_any b S x w1 hS hok (h0.keep hw1) (h1.keep hw1)) ?_
   refine jy (y_gtr rfl rfl) ?_
   refine jl_prop (fun h14 => ?_) (fun h14 => ?_)
   ·first
    | (exfalso; omega)
    | (
     refine jnt ?_
     refine jc_true rfl ?_
     refine jsr ?_
     refine jz ?_
     refine jnt ?_
     refine jc_ret ?_
     refine jq_then_ret ?_
     refine jq_ret1 rfl rfl ?_
     exact fun _ hw => ⟨by unfold endE; rw [if_pos ⟨by omega, by omega⟩], hw.ch⟩
     )
   ·first
    | (exfalso; omega)
    | (
     refine jnt ?_
     refine jc_false rfl ?_
     refine jc_skip ?_
     refine jq_then ?_
     refine jsr ?_
     refine jz ?_
     refine jnt ?_
     refine jc_ret ?_
     refine jq_ret1 rfl rfl ?_
     exact fun _ hw => ⟨by unfold endE okR at *; rw [if_neg (by omega)]; have : x.2 = 0 := (by omega); rw [this], hw.ch⟩
     )
   )

end Go.Proofs.YtddpoigfliaklaaGreat