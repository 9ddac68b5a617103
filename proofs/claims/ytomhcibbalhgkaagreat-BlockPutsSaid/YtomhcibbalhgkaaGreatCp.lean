/- The walks of package codec, part two: reading. Written by program (walk.py) out of a table of contracts and invariants. -/
import Derived.Test.YtomhcibbalhgkaaGreatCo
namespace Go.Proofs.YtomhcibbalhgkaaGreat
open Go.RowKit
set_option maxRecDepth 100000
set_option linter.unusedVariables false
set_option linter.unusedSimpArgs false
theorem bt_empty : head ⟨#[]⟩ = 0 ∧ getV ⟨#[]⟩ = 0 ∧ two ⟨#[]⟩ = 0 := ⟨rfl, rfl, rfl⟩
theorem not_both {a b : Prop} (h : ¬ (a ∧ b)) (hb : b) : ¬ a := fun ha => h ⟨ha, hb⟩
theorem ne_size {s : ByteArray} (h : ¬ s = ⟨#[]⟩) : 0 < s.size := by
  rcases Nat.eq_zero_or_pos s.size with h1 | h1
  · exact absurd (ByteArray.size_eq_zero_iff.1 h1) h
  · exact h1
theorem eq_size {s : ByteArray} (h : s = ⟨#[]⟩) : s.size = 0 := by rw [h]; rfl
theorem ext_size {S : ByteArray} {a : Nat} (h : a ≤ S.size) : (S.extract a S.size).size = S.size - a := by rw [ByteArray.size_extract]; omega
theorem ext_none {S : ByteArray} {a : Nat} (h : a ≤ S.size) : S.extract a S.size = ⟨#[]⟩ ↔ ¬ a < S.size := ⟨fun e => by have := eq_size e; rw [ext_size h] at this; omega, fun h2 => Decidable.byContradiction fun h3 => by have := ne_size h3; rw [ext_size h] at this; omega⟩
theorem lenV_two (S : ByteArray) (x : RS) : ((lenV S x : Nat) : Int) = two (tkV S x 2) := by have := two_range (tkV S x 2); unfold lenV; omega

theorem cfail_any (b : Nat) (r : ByteArray) (e0 er : Int) (w : World) (hA : HA.ok w (.cells b [.string r, .int .i64 e0])) :
  Calls Tryz.prog 82 #[.pointer (some ⟨b, 0, none⟩), .int .i64 er] w fun e w' => e = .returned (.tuple #[]) ∧ Upd w w' (.cells b [.string r, .int .i64 e0]) (.cells b [.string r, .int .i64 (failE e0 er)]) := by
 refine calls_of (n := 13) (E := [(0, .pointer (some ⟨b, 0, none⟩)), (1, .int .i64 er)]) (W := Hp w [b] [.cells b [.string r, .int .i64 e0]]) Tryz.func82 rfl rfl (Nat.le_of_ble_eq_true rfl) rfl (Hp.start rfl hA) ?_
 refine jsr ?_
 refine jz ?_
 refine jz ?_
 refine jz ?_
 refine jz ?_
 refine jy (y_eql rfl rfl) ?_
 refine jl_prop (fun h8 => ?_) (fun h8 => ?_)
 ·first
  | (exfalso; omega)
  | (
   refine jnt ?_
   refine jc_true rfl ?_
   refine jc_region ?_
   refine jz ?_
   refine jz ?_
   refine jz ?_
   refine jz ?_
   refine jst ?_
   refine jl_nil ?_
   refine jq_end0 rfl ?_
   exact fun w' hw => ⟨rfl, by rw [failE_zero er (by omega)]; exact hw.updd rfl⟩
   )
 ·first
  | (exfalso; omega)
  | (
   refine jnt ?_
   refine jc_false rfl ?_
   refine jc_skip ?_
   refine jq_end0 rfl ?_
   exact fun w' hw => ⟨rfl, by rw [failE_old er (by omega)]; exact hw.updd rfl⟩
   )

theorem clo_byte (s : ByteArray) (w : World) (h : 0 < s.size) (h2 : s.size ≤ 1000000000) :
  Calls Tryz.prog 98 #[.string s] w fun e w' => e = .returned (.int .i64 (head s)) ∧ Ch [] w w' := by
 have hh := head_range s
 refine calls_of (n := 6) (E := [(0, .string s)]) (W := Hp w [] []) Tryz.func98 rfl rfl (Nat.le_of_ble_eq_true rfl) rfl (Hp.nil _ _) ?_
 refine jsr ?_
 refine jz ?_
 refine jnt ?_
 refine jsr ?_
 refine jz ?_
 refine jy (y_at_str rfl rfl (by omega) (by omega)) ?_
 refine jl_as (u := .int .u8 (head s)) (congrArg (Value.int .u8) (bAt_ints s 0)) ?_
 first | refine jy (y_conv_fits rfl (by simp only [fits]; omega)) ?_
 refine jz ?_
 refine jnt ?_
 refine jc_ret ?_
 refine jq_ret1 rfl rfl ?_
 exact fun _ hw => ⟨rfl, hw.ch⟩

theorem clo_num (s : ByteArray) (w : World) (h2 : s.size ≤ 1000000) :
  Calls Tryz.prog 100 #[.string s] w fun e w' => e = .returned (.int .u64 (getV s)) ∧ Ch [] w w' := by
 refine calls_of (n := 11) (E := [(0, .string s)]) (W := Hp w [] []) Tryz.func100 rfl rfl (Nat.le_of_ble_eq_true rfl) rfl (Hp.nil _ _) ?_
 refine jsr ?_
 refine jz ?_
 refine jnt ?_
 refine jsr ?_
 refine jz ?_
 refine jpc (goes_func rfl) (fun w1 hw1 => get_any _ w1 (by omega)) ?_
 refine jz ?_
 refine jz ?_
 refine jz ?_
 refine jz ?_
 refine jz ?_
 refine jnt ?_
 refine jsr ?_
 refine jz ?_
 refine jz ?_
 refine jnt ?_
 refine jc_ret ?_
 refine jq_ret1 rfl rfl ?_
 exact fun _ hw => ⟨rfl, hw.ch⟩

theorem clo_two (s : ByteArray) (w : World) (h : s.size = 2) :
  Calls Tryz.prog 104 #[.string s] w fun e w' => e = .returned (.int .i64 (two s)) ∧ Ch [] w w' := by
 have h0 := ints_getD_range s 0
 have h1 := ints_getD_range s 1
 refine calls_of (n := 11) (E := [(0, .string s)]) (W := Hp w [] []) Tryz.func104 rfl rfl (Nat.le_of_ble_eq_true rfl) rfl (Hp.nil _ _) ?_
 refine jsr ?_
 refine jz ?_
 refine jnt ?_
 refine jc_seq ?_
 refine jc_draw (by kernel_rfl) (fun _ h => h.drew) ?_
 refine juz ?_
 refine juy (y_at_str rfl rfl (by omega) (by omega)) ?_
 refine ju_as (u := .int .u8 ((ints s).getD 0 0)) (congrArg (Value.int .u8) (bAt_ints s 0)) ?_
 first | refine juy (y_conv_fits rfl (by simp only [fits]; omega)) ?_
 refine juy (y_shl_by_fits (m := 256) rfl rfl (by decide) (by decide) (by decide) (by simp only [fits]; omega)) ?_
 refine juz ?_
 refine juy (y_at_str rfl rfl (by omega) (by omega)) ?_
 refine ju_as (u := .int .u8 ((ints s).getD 1 0)) (congrArg (Value.int .u8) (bAt_ints s 1)) ?_
 first | refine juy (y_conv_fits rfl (by simp only [fits]; omega)) ?_
 refine juy (y_or rfl rfl) ?_
 refine ju_as (u := .int .i64 (two s)) (congrArg (Value.int .i64) (two_or s)) ?_
 refine juz ?_
 refine ju_nil ?_
 refine jq_then ?_
 refine jc_ret ?_
 refine jq_ret1 rfl rfl ?_
 exact fun _ hw => ⟨rfl, hw.ch⟩

theorem clo_str (s : ByteArray) (w : World) :
  Calls Tryz.prog 105 #[.string s] w fun e w' => e = .returned (.string s) ∧ Ch [] w w' := by
 refine calls_of (n := 4) (E := [(0, .string s)]) (W := Hp w [] []) Tryz.func105 rfl rfl (Nat.le_of_ble_eq_true rfl) rfl (Hp.nil _ _) ?_
 refine jsr ?_
 refine jz ?_
 refine jnt ?_
 refine jsr ?_
 refine jz ?_
 refine jz ?_
 refine jnt ?_
 refine jc_ret ?_
 refine jq_ret1 rfl rfl ?_
 exact fun _ hw => ⟨rfl, hw.ch⟩

theorem clo_hash (s : ByteArray) (w : World) :
  Calls Tryz.prog 103 #[.string s] w fun e w' => e = .returned (.string s) ∧ Ch [] w w' := by
 refine calls_of (n := 4) (E := [(0, .string s)]) (W := Hp w [] []) Tryz.func103 rfl rfl (Nat.le_of_ble_eq_true rfl) rfl (Hp.nil _ _) ?_
 refine jsr ?_
 refine jz ?_
 refine jnt ?_
 refine jsr ?_
 refine jz ?_
 refine jz ?_
 refine jnt ?_
 refine jc_ret ?_
 refine jq_ret1 rfl rfl ?_
 exact fun _ hw => ⟨rfl, hw.ch⟩

theorem takeB_any (b : Nat) (S : ByteArray) (x : RS) (n : Nat) (w : World) (hS : S.size ≤ 1000000000) (hok : okR S x) (hn : n ≤ 100000) (hn1 : n = 1) (hA : HA.ok w (.cells b [.string (S.extract (x).1 S.size), .int .i64 (x).2])) :
  Calls Tryz.prog 97 #[.pointer (some ⟨b, 0, none⟩), .int .i64 (n : Nat), .func (.func 98) #[] #[]] w fun e w' => e = .returned (.int .i64 (head (tkV S x n))) ∧ Upd w w' (.cells b [.string (S.extract (x).1 S.size), .int .i64 (x).2]) (.cells b [.string (S.extract (tkS S x n).1 S.size), .int .i64 (tkS S x n).2]) := by
 unfold okR at hok
 have hsz : (S.extract x.1 S.size).size = S.size - x.1 := by rw [ByteArray.size_extract]; omega
 have hfc := fail_cases x.2 3
 refine calls_of (n := 42) (E := [(0, .pointer (some ⟨b, 0, none⟩)), (1, .int .i64 (n : Nat)), (2, .func (.func 98) #[] #[])]) (W := Hp w [b] [.cells b [.string (S.extract (x).1 S.size), .int .i64 (x).2]]) Tryz.func97 rfl rfl (Nat.le_of_ble_eq_true rfl) rfl (Hp.start rfl hA) ?_
 refine jsr ?_
 refine jz ?_
 refine jnt ?_
 refine jsr ?_
 refine jz ?_
 refine jnt ?_
 refine jc_seq ?_
 refine jsr ?_
 refine jz ?_
 refine jz ?_
 refine jz ?_
 refine jz ?_
 refine jy (y_len_str rfl) ?_
 refine jz ?_
 refine jy (y_lss rfl rfl) ?_
 refine jl_prop (fun h15 => ?_) (fun h15 => ?_)
 ·first
  | (exfalso; omega)
  | (
   refine jnt ?_
   refine jc_true rfl ?_
   refine jc_region ?_
   refine jz ?_
   refine juc (goes_func rfl) (fun w1 hw1 => cfail_any b _ _ 3 w1 hw1) ?_
   refine jnt ?_
   refine jc_seq ?_
   refine jsr ?_
   refine jz ?_
   refine jz ?_
   refine jz ?_
   refine jz ?_
   refine jy (y_neq rfl rfl) ?_
   refine jl_prop (fun h22 => ?_) (fun h22 => ?_)
   ·first
    | (exfalso; omega)
    | (
     refine jnt ?_
     refine jc_true rfl ?_
     refine jsr ?_
     refine jz ?_
     refine jz ?_
     refine jnt ?_
     refine jc_ret ?_
     refine jq_then_ret ?_
     refine jq_ret1 rfl rfl ?_
     exact fun w' hw => ⟨by have hz : tkV S x n = ⟨#[]⟩ := (by first | exact (tk_fail (by omega)).1 | exact (tk_bad (by omega)).1); rw [hz] <;> rfl, by first | (rw [(tk_fail (by omega) : _ ∧ tkS S x n = _).2]; exact hw.updd rfl) | (rw [(tk_bad (by omega) : _ ∧ tkS S x n = _).2]; exact hw.updd rfl)⟩
     )
   ·first
    | (exfalso; omega)
    | (
     refine jnt ?_
     refine jc_false rfl ?_
     refine jc_skip ?_
     refine jq_then ?_
     refine jc_seq ?_
     have htk := @tk_yes S x n (by omega) (by omega)
     have hsv : (S.extract x.1 (x.1 + n)).size = n := by rw [ByteArray.size_extract]; omega
     refine jc_region ?_
     refine jz ?_
     refine jz ?_
     refine jz ?_
     refine jz ?_
     refine jz ?_
     refine jy (y_substr_hi rfl rfl (by omega) (by omega)) ?_
     refine jl_as (u := .string (S.extract x.1 (x.1 + n))) (congrArg Value.string (ext_hi (by omega))) ?_
     refine jz ?_
     refine jnt ?_
     refine jsr ?_
     refine jz ?_
     refine jz ?_
     refine jz ?_
     refine jz ?_
     refine jz ?_
     refine jz ?_
     refine jy (y_substr_lo rfl rfl (by omega) (by omega)) ?_
     refine jl_as (u := .string (S.extract (x.1 + n) S.size)) (congrArg Value.string (by rw [hsz]; exact ext_lo (by omega))) ?_
     refine jz ?_
     refine jz ?_
     refine jst ?_
     refine jnt ?_
     refine jsr ?_
     refine jz ?_
     refine jz ?_
     refine jl_pcall rfl (by decide) rfl (goes_value rfl rfl) (fun w1 hw1 => pcall hw1 (clo_byte (S.extract x.1 (x.1 + n)) w1 (by omega) (by omega))) ?_
     refine jl_as (u := .int .i64 (head (tkV S x n))) (by rw [htk.1]) ?_
     refine jz ?_
     refine jnt ?_
     refine jc_ret ?_
     refine jq_ret1 rfl rfl ?_
     exact fun w' hw => ⟨rfl, by rw [htk.2]; have h0 : x.2 = 0 := (by omega); rw [h0] at hw; exact hw.updd (A := .cells b [.string (S.extract (x).1 S.size), .int .i64 (x).2]) rfl⟩
     )
   )
 ·first
  | (exfalso; omega)
  | (
   refine jnt ?_
   refine jc_false rfl ?_
   refine jc_skip ?_
   refine jq_then ?_
   refine jc_seq ?_
   refine jsr ?_
   refine jz ?_
   refine jz ?_
   refine jz ?_
   refine jz ?_
   refine jy (y_neq rfl rfl) ?_
   refine jl_prop (fun h22 => ?_) (fun h22 => ?_)
   ·first
    | (exfalso; omega)
    | (
     refine jnt ?_
     refine jc_true rfl ?_
     refine jsr ?_
     refine jz ?_
     refine jz ?_
     refine jnt ?_
     refine jc_ret ?_
     refine jq_then_ret ?_
     refine jq_ret1 rfl rfl ?_
     exact fun w' hw => ⟨by have hz : tkV S x n = ⟨#[]⟩ := (by first | exact (tk_fail (by omega)).1 | exact (tk_bad (by omega)).1); rw [hz] <;> rfl, by first | (rw [(tk_fail (by omega) : _ ∧ tkS S x n = _).2]; exact hw.updd rfl) | (rw [(tk_bad (by omega) : _ ∧ tkS S x n = _).2]; exact hw.updd rfl)⟩
     )
   ·first
    | (exfalso; omega)
    | (
     refine jnt ?_
     refine jc_false rfl ?_
     refine jc_skip ?_
     refine jq_then ?_
     refine jc_seq ?_
     have htk := @tk_yes S x n (by omega) (by omega)
     have hsv : (S.extract x.1 (x.1 + n)).size = n := by rw [ByteArray.size_extract]; omega
     refine jc_region ?_
     refine jz ?_
     refine jz ?_
     refine jz ?_
     refine jz ?_
     refine jz ?_
     refine jy (y_substr_hi rfl rfl (by omega) (by omega)) ?_
     refine jl_as (u := .string (S.extract x.1 (x.1 + n))) (congrArg Value.string (ext_hi (by omega))) ?_
     refine jz ?_
     refine jnt ?_
     refine jsr ?_
     refine jz ?_
     refine jz ?_
     refine jz ?_
     refine jz ?_
     refine jz ?_
     refine jz ?_
     refine jy (y_substr_lo rfl rfl (by omega) (by omega)) ?_
     refine jl_as (u := .string (S.extract (x.1 + n) S.size)) (congrArg Value.string (by rw [hsz]; exact ext_lo (by omega))) ?_
     refine jz ?_
     refine jz ?_
     refine jst ?_
     refine jnt ?_
     refine jsr ?_
     refine jz ?_
     refine jz ?_
     refine jl_pcall rfl (by decide) rfl (goes_value rfl rfl) (fun w1 hw1 => pcall hw1 (clo_byte (S.extract x.1 (x.1 + n)) w1 (by omega) (by omega))) ?_
     refine jl_as (u := .int .i64 (head (tkV S x n))) (by rw [htk.1]) ?_
     refine jz ?_
     refine jnt ?_
     refine jc_ret ?_
     refine jq_ret1 rfl rfl ?_
     exact fun w' hw => ⟨rfl, by rw [htk.2]; have h0 : x.2 = 0 := (by omega); rw [h0] at hw; exact hw.updd (A := .cells b [.string (S.extract (x).1 S.size), .int .i64 (x).2]) rfl⟩
     )
   )

theorem takeT_any (b : Nat) (S : ByteArray) (x : RS) (n : Nat) (w : World) (hS : S.size ≤ 1000000000) (hok : okR S x) (hn : n ≤ 100000) (hn1 : n = 2) (hA : HA.ok w (.cells b [.string (S.extract (x).1 S.size), .int .i64 (x).2])) :
  Calls Tryz.prog 97 #[.pointer (some ⟨b, 0, none⟩), .int .i64 (n : Nat), .func (.func 104) #[] #[]] w fun e w' => e = .returned (.int .i64 (two (tkV S x n))) ∧ Upd w w' (.cells b [.string (S.extract (x).1 S.size), .int .i64 (x).2]) (.cells b [.string (S.extract (tkS S x n).1 S.size), .int .i64 (tkS S x n).2]) := by
 unfold okR at hok
 have hsz : (S.extract x.1 S.size).size = S.size - x.1 := by rw [ByteArray.size_extract]; omega
 have hfc := fail_cases x.2 3
 refine calls_of (n := 42) (E := [(0, .pointer (some ⟨b, 0, none⟩)), (1, .int .i64 (n : Nat)), (2, .func (.func 104) #[] #[])]) (W := Hp w [b] [.cells b [.string (S.extract (x).1 S.size), .int .i64 (x).2]]) Tryz.func97 rfl rfl (Nat.le_of_ble_eq_true rfl) rfl (Hp.start rfl hA) ?_
 refine jsr ?_
 refine jz ?_
 refine jnt ?_
 refine jsr ?_
 refine jz ?_
 refine jnt ?_
 refine jc_seq ?_
 refine jsr ?_
 refine jz ?_
 refine jz ?_
 refine jz ?_
 refine jz ?_
 refine jy (y_len_str rfl) ?_
 refine jz ?_
 refine jy (y_lss rfl rfl) ?_
 refine jl_prop (fun h15 => ?_) (fun h15 => ?_)
 ·first
  | (exfalso; omega)
  | (
   refine jnt ?_
   refine jc_true rfl ?_
   refine jc_region ?_
   refine jz ?_
   refine juc (goes_func rfl) (fun w1 hw1 => cfail_any b _ _ 3 w1 hw1) ?_
   refine jnt ?_
   refine jc_seq ?_
   refine jsr ?_
   refine jz ?_
   refine jz ?_
   refine jz ?_
   refine jz ?_
   refine jy (y_neq rfl rfl) ?_
   refine jl_prop (fun h22 => ?_) (fun h22 => ?_)
   ·first
    | (exfalso; omega)
    | (
     refine jnt ?_
     refine jc_true rfl ?_
     refine jsr ?_
     refine jz ?_
     refine jz ?_
     refine jnt ?_
     refine jc_ret ?_
     refine jq_then_ret ?_
     refine jq_ret1 rfl rfl ?_
     exact fun w' hw => ⟨by have hz : tkV S x n = ⟨#[]⟩ := (by first | exact (tk_fail (by omega)).1 | exact (tk_bad (by omega)).1); rw [hz] <;> rfl, by first | (rw [(tk_fail (by omega) : _ ∧ tkS S x n = _).2]; exact hw.updd rfl) | (rw [(tk_bad (by omega) : _ ∧ tkS S x n = _).2]; exact hw.updd rfl)⟩
     )
   ·first
    | (exfalso; omega)
    | (
     refine jnt ?_
     refine jc_false rfl ?_
     refine jc_skip ?_
     refine jq_then ?_
     refine jc_seq ?_
     have htk := @tk_yes S x n (by omega) (by omega)
     have hsv : (S.extract x.1 (x.1 + n)).size = n := by rw [ByteArray.size_extract]; omega
     refine jc_region ?_
     refine jz ?_
     refine jz ?_
     refine jz ?_
     refine jz ?_
     refine jz ?_
     refine jy (y_substr_hi rfl rfl (by omega) (by omega)) ?_
     refine jl_as (u := .string (S.extract x.1 (x.1 + n))) (congrArg Value.string (ext_hi (by omega))) ?_
     refine jz ?_
     refine jnt ?_
     refine jsr ?_
     refine jz ?_
     refine jz ?_
     refine jz ?_
     refine jz ?_
     refine jz ?_
     refine jz ?_
     refine jy (y_substr_lo rfl rfl (by omega) (by omega)) ?_
     refine jl_as (u := .string (S.extract (x.1 + n) S.size)) (congrArg Value.string (by rw [hsz]; exact ext_lo (by omega))) ?_
     refine jz ?_
     refine jz ?_
     refine jst ?_
     refine jnt ?_
     refine jsr ?_
     refine jz ?_
     refine jz ?_
     refine jl_pcall rfl (by decide) rfl (goes_value rfl rfl) (fun w1 hw1 => pcall hw1 (clo_two (S.extract x.1 (x.1 + n)) w1 (by omega))) ?_
     refine jl_as (u := .int .i64 (two (tkV S x n))) (by rw [htk.1]) ?_
     refine jz ?_
     refine jnt ?_
     refine jc_ret ?_
     refine jq_ret1 rfl rfl ?_
     exact fun w' hw => ⟨rfl, by rw [htk.2]; have h0 : x.2 = 0 := (by omega); rw [h0] at hw; exact hw.updd (A := .cells b [.string (S.extract (x).1 S.size), .int .i64 (x).2]) rfl⟩
     )
   )
 ·first
  | (exfalso; omega)
  | (
   refine jnt ?_
   refine jc_false rfl ?_
   refine jc_skip ?_
   refine jq_then ?_
   refine jc_seq ?_
   refine jsr ?_
   refine jz ?_
   refine jz ?_
   refine jz ?_
   refine jz ?_
   refine jy (y_neq rfl rfl) ?_
   refine jl_prop (fun h22 => ?_) (fun h22 => ?_)
   ·first
    | (exfalso; omega)
    | (
     refine jnt ?_
     refine jc_true rfl ?_
     refine jsr ?_
     refine jz ?_
     refine jz ?_
     refine jnt ?_
     refine jc_ret ?_
     refine jq_then_ret ?_
     refine jq_ret1 rfl rfl ?_
     exact fun w' hw => ⟨by have hz : tkV S x n = ⟨#[]⟩ := (by first | exact (tk_fail (by omega)).1 | exact (tk_bad (by omega)).1); rw [hz] <;> rfl, by first | (rw [(tk_fail (by omega) : _ ∧ tkS S x n = _).2]; exact hw.updd rfl) | (rw [(tk_bad (by omega) : _ ∧ tkS S x n = _).2]; exact hw.updd rfl)⟩
     )
   ·first
    | (exfalso; omega)
    | (
     refine jnt ?_
     refine jc_false rfl ?_
     refine jc_skip ?_
     refine jq_then ?_
     refine jc_seq ?_
     have htk := @tk_yes S x n (by omega) (by omega)
     have hsv : (S.extract x.1 (x.1 + n)).size = n := by rw [ByteArray.size_extract]; omega
     refine jc_region ?_
     refine jz ?_
     refine jz ?_
     refine jz ?_
     refine jz ?_
     refine jz ?_
     refine jy (y_substr_hi rfl rfl (by omega) (by omega)) ?_
     refine jl_as (u := .string (S.extract x.1 (x.1 + n))) (congrArg Value.string (ext_hi (by omega))) ?_
     refine jz ?_
     refine jnt ?_
     refine jsr ?_
     refine jz ?_
     refine jz ?_
     refine jz ?_
     refine jz ?_
     refine jz ?_
     refine jz ?_
     refine jy (y_substr_lo rfl rfl (by omega) (by omega)) ?_
     refine jl_as (u := .string (S.extract (x.1 + n) S.size)) (congrArg Value.string (by rw [hsz]; exact ext_lo (by omega))) ?_
     refine jz ?_
     refine jz ?_
     refine jst ?_
     refine jnt ?_
     refine jsr ?_
     refine jz ?_
     refine jz ?_
     refine jl_pcall rfl (by decide) rfl (goes_value rfl rfl) (fun w1 hw1 => pcall hw1 (clo_two (S.extract x.1 (x.1 + n)) w1 (by omega))) ?_
     refine jl_as (u := .int .i64 (two (tkV S x n))) (by rw [htk.1]) ?_
     refine jz ?_
     refine jnt ?_
     refine jc_ret ?_
     refine jq_ret1 rfl rfl ?_
     exact fun w' hw => ⟨rfl, by rw [htk.2]; have h0 : x.2 = 0 := (by omega); rw [h0] at hw; exact hw.updd (A := .cells b [.string (S.extract (x).1 S.size), .int .i64 (x).2]) rfl⟩
     )
   )

theorem takeN_any (b : Nat) (S : ByteArray) (x : RS) (n : Nat) (w : World) (hS : S.size ≤ 1000000000) (hok : okR S x) (hn : n ≤ 100000) (hA : HA.ok w (.cells b [.string (S.extract (x).1 S.size), .int .i64 (x).2])) :
  Calls Tryz.prog 99 #[.pointer (some ⟨b, 0, none⟩), .int .i64 (n : Nat), .func (.func 100) #[] #[]] w fun e w' => e = .returned (.int .u64 (getV (tkV S x n))) ∧ Upd w w' (.cells b [.string (S.extract (x).1 S.size), .int .i64 (x).2]) (.cells b [.string (S.extract (tkS S x n).1 S.size), .int .i64 (tkS S x n).2]) := by
 unfold okR at hok
 have hsz : (S.extract x.1 S.size).size = S.size - x.1 := by rw [ByteArray.size_extract]; omega
 have hfc := fail_cases x.2 3
 refine calls_of (n := 42) (E := [(0, .pointer (some ⟨b, 0, none⟩)), (1, .int .i64 (n : Nat)), (2, .func (.func 100) #[] #[])]) (W := Hp w [b] [.cells b [.string (S.extract (x).1 S.size), .int .i64 (x).2]]) Tryz.func99 rfl rfl (Nat.le_of_ble_eq_true rfl) rfl (Hp.start rfl hA) ?_
 refine jsr ?_
 refine jz ?_
 refine jnt ?_
 refine jsr ?_
 refine jz ?_
 refine jnt ?_
 refine jc_seq ?_
 refine jsr ?_
 refine jz ?_
 refine jz ?_
 refine jz ?_
 refine jz ?_
 refine jy (y_len_str rfl) ?_
 refine jz ?_
 refine jy (y_lss rfl rfl) ?_
 refine jl_prop (fun h15 => ?_) (fun h15 => ?_)
 ·first
  | (exfalso; omega)
  | (
   refine jnt ?_
   refine jc_true rfl ?_
   refine jc_region ?_
   refine jz ?_
   refine juc (goes_func rfl) (fun w1 hw1 => cfail_any b _ _ 3 w1 hw1) ?_
   refine jnt ?_
   refine jc_seq ?_
   refine jsr ?_
   refine jz ?_
   refine jz ?_
   refine jz ?_
   refine jz ?_
   refine jy (y_neq rfl rfl) ?_
   refine jl_prop (fun h22 => ?_) (fun h22 => ?_)
   ·first
    | (exfalso; omega)
    | (
     refine jnt ?_
     refine jc_true rfl ?_
     refine jsr ?_
     refine jz ?_
     refine jz ?_
     refine jnt ?_
     refine jc_ret ?_
     refine jq_then_ret ?_
     refine jq_ret1 rfl rfl ?_
     exact fun w' hw => ⟨by have hz : tkV S x n = ⟨#[]⟩ := (by first | exact (tk_fail (by omega)).1 | exact (tk_bad (by omega)).1); rw [hz] <;> rfl, by first | (rw [(tk_fail (by omega) : _ ∧ tkS S x n = _).2]; exact hw.updd rfl) | (rw [(tk_bad (by omega) : _ ∧ tkS S x n = _).2]; exact hw.updd rfl)⟩
     )
   ·first
    | (exfalso; omega)
    | (
     refine jnt ?_
     refine jc_false rfl ?_
     refine jc_skip ?_
     refine jq_then ?_
     refine jc_seq ?_
     have htk := @tk_yes S x n (by omega) (by omega)
     have hsv : (S.extract x.1 (x.1 + n)).size = n := by rw [ByteArray.size_extract]; omega
     refine jc_region ?_
     refine jz ?_
     refine jz ?_
     refine jz ?_
     refine jz ?_
     refine jz ?_
     refine jy (y_substr_hi rfl rfl (by omega) (by omega)) ?_
     refine jl_as (u := .string (S.extract x.1 (x.1 + n))) (congrArg Value.string (ext_hi (by omega))) ?_
     refine jz ?_
     refine jnt ?_
     refine jsr ?_
     refine jz ?_
     refine jz ?_
     refine jz ?_
     refine jz ?_
     refine jz ?_
     refine jz ?_
     refine jy (y_substr_lo rfl rfl (by omega) (by omega)) ?_
     refine jl_as (u := .string (S.extract (x.1 + n) S.size)) (congrArg Value.string (by rw [hsz]; exact ext_lo (by omega))) ?_
     refine jz ?_
     refine jz ?_
     refine jst ?_
     refine jnt ?_
     refine jsr ?_
     refine jz ?_
     refine jz ?_
     refine jl_pcall rfl (by decide) rfl (goes_value rfl rfl) (fun w1 hw1 => pcall hw1 (clo_num (S.extract x.1 (x.1 + n)) w1 (by omega))) ?_
     refine jl_as (u := .int .u64 (getV (tkV S x n))) (by rw [htk.1]) ?_
     refine jz ?_
     refine jnt ?_
     refine jc_ret ?_
     refine jq_ret1 rfl rfl ?_
     exact fun w' hw => ⟨rfl, by rw [htk.2]; have h0 : x.2 = 0 := (by omega); rw [h0] at hw; exact hw.updd (A := .cells b [.string (S.extract (x).1 S.size), .int .i64 (x).2]) rfl⟩
     )
   )
 ·first
  | (exfalso; omega)
  | (
   refine jnt ?_
   refine jc_false rfl ?_
   refine jc_skip ?_
   refine jq_then ?_
   refine jc_seq ?_
   refine jsr ?_
   refine jz ?_
   refine jz ?_
   refine jz ?_
   refine jz ?_
   refine jy (y_neq rfl rfl) ?_
   refine jl_prop (fun h22 => ?_) (fun h22 => ?_)
   ·first
    | (exfalso; omega)
    | (
     refine jnt ?_
     refine jc_true rfl ?_
     refine jsr ?_
     refine jz ?_
     refine jz ?_
     refine jnt ?_
     refine jc_ret ?_
     refine jq_then_ret ?_
     refine jq_ret1 rfl rfl ?_
     exact fun w' hw => ⟨by have hz : tkV S x n = ⟨#[]⟩ := (by first | exact (tk_fail (by omega)).1 | exact (tk_bad (by omega)).1); rw [hz] <;> rfl, by first | (rw [(tk_fail (by omega) : _ ∧ tkS S x n = _).2]; exact hw.updd rfl) | (rw [(tk_bad (by omega) : _ ∧ tkS S x n = _).2]; exact hw.updd rfl)⟩
     )
   ·first
    | (exfalso; omega)
    | (
     refine jnt ?_
     refine jc_false rfl ?_
     refine jc_skip ?_
     refine jq_then ?_
     refine jc_seq ?_
     have htk := @tk_yes S x n (by omega) (by omega)
     have hsv : (S.extract x.1 (x.1 + n)).size = n := by rw [ByteArray.size_extract]; omega
     refine jc_region ?_
     refine jz ?_
     refine jz ?_
     refine jz ?_
     refine jz ?_
     refine jz ?_
     refine jy (y_substr_hi rfl rfl (by omega) (by omega)) ?_
     refine jl_as (u := .string (S.extract x.1 (x.1 + n))) (congrArg Value.string (ext_hi (by omega))) ?_
     refine jz ?_
     refine jnt ?_
     refine jsr ?_
     refine jz ?_
     refine jz ?_
     refine jz ?_
     refine jz ?_
     refine jz ?_
     refine jz ?_
     refine jy (y_substr_lo rfl rfl (by omega) (by omega)) ?_
     refine jl_as (u := .string (S.extract (x.1 + n) S.size)) (congrArg Value.string (by rw [hsz]; exact ext_lo (by omega))) ?_
     refine jz ?_
     refine jz ?_
     refine jst ?_
     refine jnt ?_
     refine jsr ?_
     refine jz ?_
     refine jz ?_
     refine jl_pcall rfl (by decide) rfl (goes_value rfl rfl) (fun w1 hw1 => pcall hw1 (clo_num (S.extract x.1 (x.1 + n)) w1 (by omega))) ?_
     refine jl_as (u := .int .u64 (getV (tkV S x n))) (by rw [htk.1]) ?_
     refine jz ?_
     refine jnt ?_
     refine jc_ret ?_
     refine jq_ret1 rfl rfl ?_
     exact fun w' hw => ⟨rfl, by rw [htk.2]; have h0 : x.2 = 0 := (by omega); rw [h0] at hw; exact hw.updd (A := .cells b [.string (S.extract (x).1 S.size), .int .i64 (x).2]) rfl⟩
     )
   )

theorem takeS_any (b : Nat) (S : ByteArray) (x : RS) (n : Nat) (w : World) (hS : S.size ≤ 1000000000) (hok : okR S x) (hn : n ≤ 100000) (hA : HA.ok w (.cells b [.string (S.extract (x).1 S.size), .int .i64 (x).2])) :
  Calls Tryz.prog 102 #[.pointer (some ⟨b, 0, none⟩), .int .i64 (n : Nat), .func (.func 105) #[] #[]] w fun e w' => e = .returned (.string (tkV S x n)) ∧ Upd w w' (.cells b [.string (S.extract (x).1 S.size), .int .i64 (x).2]) (.cells b [.string (S.extract (tkS S x n).1 S.size), .int .i64 (tkS S x n).2]) := by
 unfold okR at hok
 have hsz : (S.extract x.1 S.size).size = S.size - x.1 := by rw [ByteArray.size_extract]; omega
 have hfc := fail_cases x.2 3
 refine calls_of (n := 42) (E := [(0, .pointer (some ⟨b, 0, none⟩)), (1, .int .i64 (n : Nat)), (2, .func (.func 105) #[] #[])]) (W := Hp w [b] [.cells b [.string (S.extract (x).1 S.size), .int .i64 (x).2]]) Tryz.func102 rfl rfl (Nat.le_of_ble_eq_true rfl) rfl (Hp.start rfl hA) ?_
 refine jsr ?_
 refine jz ?_
 refine jnt ?_
 refine jsr ?_
 refine jz ?_
 refine jnt ?_
 refine jc_seq ?_
 refine jsr ?_
 refine jz ?_
 refine jz ?_
 refine jz ?_
 refine jz ?_
 refine jy (y_len_str rfl) ?_
 refine jz ?_
 refine jy (y_lss rfl rfl) ?_
 refine jl_prop (fun h15 => ?_) (fun h15 => ?_)
 ·first
  | (exfalso; omega)
  | (
   refine jnt ?_
   refine jc_true rfl ?_
   refine jc_region ?_
   refine jz ?_
   refine juc (goes_func rfl) (fun w1 hw1 => cfail_any b _ _ 3 w1 hw1) ?_
   refine jnt ?_
   refine jc_seq ?_
   refine jsr ?_
   refine jz ?_
   refine jz ?_
   refine jz ?_
   refine jz ?_
   refine jy (y_neq rfl rfl) ?_
   refine jl_prop (fun h22 => ?_) (fun h22 => ?_)
   ·first
    | (exfalso; omega)
    | (
     refine jnt ?_
     refine jc_true rfl ?_
     refine jsr ?_
     refine jz ?_
     refine jz ?_
     refine jnt ?_
     refine jc_ret ?_
     refine jq_then_ret ?_
     refine jq_ret1 rfl rfl ?_
     exact fun w' hw => ⟨by have hz : tkV S x n = ⟨#[]⟩ := (by first | exact (tk_fail (by omega)).1 | exact (tk_bad (by omega)).1); rw [hz] <;> rfl, by first | (rw [(tk_fail (by omega) : _ ∧ tkS S x n = _).2]; exact hw.updd rfl) | (rw [(tk_bad (by omega) : _ ∧ tkS S x n = _).2]; exact hw.updd rfl)⟩
     )
   ·first
    | (exfalso; omega)
    | (
     refine jnt ?_
     refine jc_false rfl ?_
     refine jc_skip ?_
     refine jq_then ?_
     refine jc_seq ?_
     have htk := @tk_yes S x n (by omega) (by omega)
     have hsv : (S.extract x.1 (x.1 + n)).size = n := by rw [ByteArray.size_extract]; omega
     refine jc_region ?_
     refine jz ?_
     refine jz ?_
     refine jz ?_
     refine jz ?_
     refine jz ?_
     refine jy (y_substr_hi rfl rfl (by omega) (by omega)) ?_
     refine jl_as (u := .string (S.extract x.1 (x.1 + n))) (congrArg Value.string (ext_hi (by omega))) ?_
     refine jz ?_
     refine jnt ?_
     refine jsr ?_
     refine jz ?_
     refine jz ?_
     refine jz ?_
     refine jz ?_
     refine jz ?_
     refine jz ?_
     refine jy (y_substr_lo rfl rfl (by omega) (by omega)) ?_
     refine jl_as (u := .string (S.extract (x.1 + n) S.size)) (congrArg Value.string (by rw [hsz]; exact ext_lo (by omega))) ?_
     refine jz ?_
     refine jz ?_
     refine jst ?_
     refine jnt ?_
     refine jsr ?_
     refine jz ?_
     refine jz ?_
     refine jl_pcall rfl (by decide) rfl (goes_value rfl rfl) (fun w1 hw1 => pcall hw1 (clo_str (S.extract x.1 (x.1 + n)) w1)) ?_
     refine jl_as (u := .string (tkV S x n)) (by rw [htk.1]) ?_
     refine jz ?_
     refine jnt ?_
     refine jc_ret ?_
     refine jq_ret1 rfl rfl ?_
     exact fun w' hw => ⟨rfl, by rw [htk.2]; have h0 : x.2 = 0 := (by omega); rw [h0] at hw; exact hw.updd (A := .cells b [.string (S.extract (x).1 S.size), .int .i64 (x).2]) rfl⟩
     )
   )
 ·first
  | (exfalso; omega)
  | (
   refine jnt ?_
   refine jc_false rfl ?_
   refine jc_skip ?_
   refine jq_then ?_
   refine jc_seq ?_
   refine jsr ?_
   refine jz ?_
   refine jz ?_
   refine jz ?_
   refine jz ?_
   refine jy (y_neq rfl rfl) ?_
   refine jl_prop (fun h22 => ?_) (fun h22 => ?_)
   ·first
    | (exfalso; omega)
    | (
     refine jnt ?_
     refine jc_true rfl ?_
     refine jsr ?_
     refine jz ?_
     refine jz ?_
     refine jnt ?_
     refine jc_ret ?_
     refine jq_then_ret ?_
     refine jq_ret1 rfl rfl ?_
     exact fun w' hw => ⟨by have hz : tkV S x n = ⟨#[]⟩ := (by first | exact (tk_fail (by omega)).1 | exact (tk_bad (by omega)).1); rw [hz] <;> rfl, by first | (rw [(tk_fail (by omega) : _ ∧ tkS S x n = _).2]; exact hw.updd rfl) | (rw [(tk_bad (by omega) : _ ∧ tkS S x n = _).2]; exact hw.updd rfl)⟩
     )
   ·first
    | (exfalso; omega)
    | (
     refine jnt ?_
     refine jc_false rfl ?_
     refine jc_skip ?_
     refine jq_then ?_
     refine jc_seq ?_
     have htk := @tk_yes S x n (by omega) (by omega)
     have hsv : (S.extract x.1 (x.1 + n)).size = n := by rw [ByteArray.size_extract]; omega
     refine jc_region ?_
     refine jz ?_
     refine jz ?_
     refine jz ?_
     refine jz ?_
     refine jz ?_
     refine jy (y_substr_hi rfl rfl (by omega) (by omega)) ?_
     refine jl_as (u := .string (S.extract x.1 (x.1 + n))) (congrArg Value.string (ext_hi (by omega))) ?_
     refine jz ?_
     refine jnt ?_
     refine jsr ?_
     refine jz ?_
     refine jz ?_
     refine jz ?_
     refine jz ?_
     refine jz ?_
     refine jz ?_
     refine jy (y_substr_lo rfl rfl (by omega) (by omega)) ?_
     refine jl_as (u := .string (S.extract (x.1 + n) S.size)) (congrArg Value.string (by rw [hsz]; exact ext_lo (by omega))) ?_
     refine jz ?_
     refine jz ?_
     refine jst ?_
     refine jnt ?_
     refine jsr ?_
     refine jz ?_
     refine jz ?_
     refine jl_pcall rfl (by decide) rfl (goes_value rfl rfl) (fun w1 hw1 => pcall hw1 (clo_str (S.extract x.1 (x.1 + n)) w1)) ?_
     refine jl_as (u := .string (tkV S x n)) (by rw [htk.1]) ?_
     refine jz ?_
     refine jnt ?_
     refine jc_ret ?_
     refine jq_ret1 rfl rfl ?_
     exact fun w' hw => ⟨rfl, by rw [htk.2]; have h0 : x.2 = 0 := (by omega); rw [h0] at hw; exact hw.updd (A := .cells b [.string (S.extract (x).1 S.size), .int .i64 (x).2]) rfl⟩
     )
   )

theorem takeH_any (b : Nat) (S : ByteArray) (x : RS) (n : Nat) (w : World) (hS : S.size ≤ 1000000000) (hok : okR S x) (hn : n ≤ 100000) (hA : HA.ok w (.cells b [.string (S.extract (x).1 S.size), .int .i64 (x).2])) :
  Calls Tryz.prog 102 #[.pointer (some ⟨b, 0, none⟩), .int .i64 (n : Nat), .func (.func 103) #[] #[]] w fun e w' => e = .returned (.string (tkV S x n)) ∧ Upd w w' (.cells b [.string (S.extract (x).1 S.size), .int .i64 (x).2]) (.cells b [.string (S.extract (tkS S x n).1 S.size), .int .i64 (tkS S x n).2]) := by
 unfold okR at hok
 have hsz : (S.extract x.1 S.size).size = S.size - x.1 := by rw [ByteArray.size_extract]; omega
 have hfc := fail_cases x.2 3
 refine calls_of (n := 42) (E := [(0, .pointer (some ⟨b, 0, none⟩)), (1, .int .i64 (n : Nat)), (2, .func (.func 103) #[] #[])]) (W := Hp w [b] [.cells b [.string (S.extract (x).1 S.size), .int .i64 (x).2]]) Tryz.func102 rfl rfl (Nat.le_of_ble_eq_true rfl) rfl (Hp.start rfl hA) ?_
 refine jsr ?_
 refine jz ?_
 refine jnt ?_
 refine jsr ?_
 refine jz ?_
 refine jnt ?_
 refine jc_seq ?_
 refine jsr ?_
 refine jz ?_
 refine jz ?_
 refine jz ?_
 refine jz ?_
 refine jy (y_len_str rfl) ?_
 refine jz ?_
 refine jy (y_lss rfl rfl) ?_
 refine jl_prop (fun h15 => ?_) (fun h15 => ?_)
 ·first
  | (exfalso; omega)
  | (
   refine jnt ?_
   refine jc_true rfl ?_
   refine jc_region ?_
   refine jz ?_
   refine juc (goes_func rfl) (fun w1 hw1 => cfail_any b _ _ 3 w1 hw1) ?_
   refine jnt ?_
   refine jc_seq ?_
   refine jsr ?_
   refine jz ?_
   refine jz ?_
   refine jz ?_
   refine jz ?_
   refine jy (y_neq rfl rfl) ?_
   refine jl_prop (fun h22 => ?_) (fun h22 => ?_)
   ·first
    | (exfalso; omega)
    | (
     refine jnt ?_
     refine jc_true rfl ?_
     refine jsr ?_
     refine jz ?_
     refine jz ?_
     refine jnt ?_
     refine jc_ret ?_
     refine jq_then_ret ?_
     refine jq_ret1 rfl rfl ?_
     exact fun w' hw => ⟨by have hz : tkV S x n = ⟨#[]⟩ := (by first | exact (tk_fail (by omega)).1 | exact (tk_bad (by omega)).1); rw [hz] <;> rfl, by first | (rw [(tk_fail (by omega) : _ ∧ tkS S x n = _).2]; exact hw.updd rfl) | (rw [(tk_bad (by omega) : _ ∧ tkS S x n = _).2]; exact hw.updd rfl)⟩
     )
   ·first
    | (exfalso; omega)
    | (
     refine jnt ?_
     refine jc_false rfl ?_
     refine jc_skip ?_
     refine jq_then ?_
     refine jc_seq ?_
     have htk := @tk_yes S x n (by omega) (by omega)
     have hsv : (S.extract x.1 (x.1 + n)).size = n := by rw [ByteArray.size_extract]; omega
     refine jc_region ?_
     refine jz ?_
     refine jz ?_
     refine jz ?_
     refine jz ?_
     refine jz ?_
     refine jy (y_substr_hi rfl rfl (by omega) (by omega)) ?_
     refine jl_as (u := .string (S.extract x.1 (x.1 + n))) (congrArg Value.string (ext_hi (by omega))) ?_
     refine jz ?_
     refine jnt ?_
     refine jsr ?_
     refine jz ?_
     refine jz ?_
     refine jz ?_
     refine jz ?_
     refine jz ?_
     refine jz ?_
     refine jy (y_substr_lo rfl rfl (by omega) (by omega)) ?_
     refine jl_as (u := .string (S.extract (x.1 + n) S.size)) (congrArg Value.string (by rw [hsz]; exact ext_lo (by omega))) ?_
     refine jz ?_
     refine jz ?_
     refine jst ?_
     refine jnt ?_
     refine jsr ?_
     refine jz ?_
     refine jz ?_
     refine jl_pcall rfl (by decide) rfl (goes_value rfl rfl) (fun w1 hw1 => pcall hw1 (clo_hash (S.extract x.1 (x.1 + n)) w1)) ?_
     refine jl_as (u := .string (tkV S x n)) (by rw [htk.1]) ?_
     refine jz ?_
     refine jnt ?_
     refine jc_ret ?_
     refine jq_ret1 rfl rfl ?_
     exact fun w' hw => ⟨rfl, by rw [htk.2]; have h0 : x.2 = 0 := (by omega); rw [h0] at hw; exact hw.updd (A := .cells b [.string (S.extract (x).1 S.size), .int .i64 (x).2]) rfl⟩
     )
   )
 ·first
  | (exfalso; omega)
  | (
   refine jnt ?_
   refine jc_false rfl ?_
   refine jc_skip ?_
   refine jq_then ?_
   refine jc_seq ?_
   refine jsr ?_
   refine jz ?_
   refine jz ?_
   refine jz ?_
   refine jz ?_
   refine jy (y_neq rfl rfl) ?_
   refine jl_prop (fun h22 => ?_) (fun h22 => ?_)
   ·first
    | (exfalso; omega)
    | (
     refine jnt ?_
     refine jc_true rfl ?_
     refine jsr ?_
     refine jz ?_
     refine jz ?_
     refine jnt ?_
     refine jc_ret ?_
     refine jq_then_ret ?_
     refine jq_ret1 rfl rfl ?_
     exact fun w' hw => ⟨by have hz : tkV S x n = ⟨#[]⟩ := (by first | exact (tk_fail (by omega)).1 | exact (tk_bad (by omega)).1); rw [hz] <;> rfl, by first | (rw [(tk_fail (by omega) : _ ∧ tkS S x n = _).2]; exact hw.updd rfl) | (rw [(tk_bad (by omega) : _ ∧ tkS S x n = _).2]; exact hw.updd rfl)⟩
     )
   ·first
    | (exfalso; omega)
    | (
     refine jnt ?_
     refine jc_false rfl ?_
     refine jc_skip ?_
     refine jq_then ?_
     refine jc_seq ?_
     have htk := @tk_yes S x n (by omega) (by omega)
     have hsv : (S.extract x.1 (x.1 + n)).size = n := by rw [ByteArray.size_extract]; omega
     refine jc_region ?_
     refine jz ?_
     refine jz ?_
     refine jz ?_
     refine jz ?_
     refine jz ?_
     refine jy (y_substr_hi rfl rfl (by omega) (by omega)) ?_
     refine jl_as (u := .string (S.extract x.1 (x.1 + n))) (congrArg Value.string (ext_hi (by omega))) ?_
     refine jz ?_
     refine jnt ?_
     refine jsr ?_
     refine jz ?_
     refine jz ?_
     refine jz ?_
     refine jz ?_
     refine jz ?_
     refine jz ?_
     refine jy (y_substr_lo rfl rfl (by omega) (by omega)) ?_
     refine jl_as (u := .string (S.extract (x.1 + n) S.size)) (congrArg Value.string (by rw [hsz]; exact ext_lo (by omega))) ?_
     refine jz ?_
     refine jz ?_
     refine jst ?_
     refine jnt ?_
     refine jsr ?_
     refine jz ?_
     refine jz ?_
     refine jl_pcall rfl (by decide) rfl (goes_value rfl rfl) (fun w1 hw1 => pcall hw1 (clo_hash (S.extract x.1 (x.1 + n)) w1)) ?_
     refine jl_as (u := .string (tkV S x n)) (by rw [htk.1]) ?_
     refine jz ?_
     refine jnt ?_
     refine jc_ret ?_
     refine jq_ret1 rfl rfl ?_
     exact fun w' hw => ⟨rfl, by rw [htk.2]; have h0 : x.2 = 0 := (by omega); rw [h0] at hw; exact hw.updd (A := .cells b [.string (S.extract (x).1 S.size), .int .i64 (x).2]) rfl⟩
     )
   )

theorem cbyte_any (b : Nat) (S : ByteArray) (x : RS) (w : World) (hS : S.size ≤ 1000000000) (hok : okR S x) (hA : HA.ok w (.cells b [.string (S.extract (x).1 S.size), .int .i64 (x).2])) :
  Calls Tryz.prog 78 #[.pointer (some ⟨b, 0, none⟩)] w fun e w' => e = .returned (.int .i64 (byV S x)) ∧ Upd w w' (.cells b [.string (S.extract (x).1 S.size), .int .i64 (x).2]) (.cells b [.string (S.extract (byS S x).1 S.size), .int .i64 (byS S x).2]) := by
 refine calls_of (n := 5) (E := [(0, .pointer (some ⟨b, 0, none⟩))]) (W := Hp w [b] [.cells b [.string (S.extract (x).1 S.size), .int .i64 (x).2]]) Tryz.func78 rfl rfl (Nat.le_of_ble_eq_true rfl) rfl (Hp.start rfl hA) ?_
 refine jsr ?_
 refine jz ?_
 refine jnt ?_
 refine jsr ?_
 refine jz ?_
 refine juc (goes_func rfl) (fun w1 hw1 => takeB_any b S x 1 w1 hS hok (by decide) rfl hw1) ?_
 refine jz ?_
 refine jnt ?_
 refine jc_ret ?_
 refine jq_ret1 rfl rfl ?_
 exact fun w' hw => ⟨rfl, hw.updd rfl⟩

theorem cnum_any (b : Nat) (S : ByteArray) (x : RS) (w : World) (hS : S.size ≤ 1000000000) (hok : okR S x) (hA : HA.ok w (.cells b [.string (S.extract (x).1 S.size), .int .i64 (x).2])) :
  Calls Tryz.prog 80 #[.pointer (some ⟨b, 0, none⟩)] w fun e w' => e = .returned (.int .u64 (nuV S x)) ∧ Upd w w' (.cells b [.string (S.extract (x).1 S.size), .int .i64 (x).2]) (.cells b [.string (S.extract (nuS S x).1 S.size), .int .i64 (nuS S x).2]) := by
 refine calls_of (n := 5) (E := [(0, .pointer (some ⟨b, 0, none⟩))]) (W := Hp w [b] [.cells b [.string (S.extract (x).1 S.size), .int .i64 (x).2]]) Tryz.func80 rfl rfl (Nat.le_of_ble_eq_true rfl) rfl (Hp.start rfl hA) ?_
 refine jsr ?_
 refine jz ?_
 refine jnt ?_
 refine jsr ?_
 refine jz ?_
 refine juc (goes_func rfl) (fun w1 hw1 => takeN_any b S x 8 w1 hS hok (by decide) hw1) ?_
 refine jz ?_
 refine jnt ?_
 refine jc_ret ?_
 refine jq_ret1 rfl rfl ?_
 exact fun w' hw => ⟨rfl, hw.updd rfl⟩

theorem chash_any (b : Nat) (S : ByteArray) (x : RS) (w : World) (hS : S.size ≤ 1000000000) (hok : okR S x) (hA : HA.ok w (.cells b [.string (S.extract (x).1 S.size), .int .i64 (x).2])) :
  Calls Tryz.prog 81 #[.pointer (some ⟨b, 0, none⟩)] w fun e w' => e = .returned (.string (haV S x)) ∧ Upd w w' (.cells b [.string (S.extract (x).1 S.size), .int .i64 (x).2]) (.cells b [.string (S.extract (haS S x).1 S.size), .int .i64 (haS S x).2]) := by
 refine calls_of (n := 5) (E := [(0, .pointer (some ⟨b, 0, none⟩))]) (W := Hp w [b] [.cells b [.string (S.extract (x).1 S.size), .int .i64 (x).2]]) Tryz.func81 rfl rfl (Nat.le_of_ble_eq_true rfl) rfl (Hp.start rfl hA) ?_
 refine jsr ?_
 refine jz ?_
 refine jnt ?_
 refine jsr ?_
 refine jz ?_
 refine juc (goes_func rfl) (fun w1 hw1 => takeH_any b S x 16 w1 hS hok (by decide) hw1) ?_
 refine jz ?_
 refine jnt ?_
 refine jc_ret ?_
 refine jq_ret1 rfl rfl ?_
 exact fun w' hw => ⟨rfl, hw.updd rfl⟩

theorem cblob_any (b : Nat) (S : ByteArray) (x : RS) (most : Int) (w : World) (hS : S.size ≤ 1000000000) (hok : okR S x) (hA : HA.ok w (.cells b [.string (S.extract (x).1 S.size), .int .i64 (x).2])) :
  Calls Tryz.prog 83 #[.pointer (some ⟨b, 0, none⟩), .int .i64 most] w fun e w' => e = .returned (.string (blV S x most)) ∧ Upd w w' (.cells b [.string (S.extract (x).1 S.size), .int .i64 (x).2]) (.cells b [.string (S.extract (blS S x most).1 S.size), .int .i64 (blS S x most).2]) := by
 have hlr := lenV_range S x
 have hl2 := lenV_two S x
 have hok2 := tkS_ok (n := 2) hok
 have hokT := blT_ok (most := most) hok
 refine calls_of (n := 41) (E := [(0, .pointer (some ⟨b, 0, none⟩)), (1, .int .i64 most)]) (W := Hp w [b] [.cells b [.string (S.extract (x).1 S.size), .int .i64 (x).2]]) Tryz.func83 rfl rfl (Nat.le_of_ble_eq_true rfl) rfl (Hp.start rfl hA) ?_
 refine jsr ?_
 refine jz ?_
 refine jnt ?_
 refine jsr ?_
 refine jz ?_
 refine jz ?_
 refine jz ?_
 refine jz ?_
 refine jz ?_
 refine jnt ?_
 refine jsr ?_
 refine jz ?_
 refine juc (goes_func rfl) (fun w1 hw1 => takeT_any b S x 2 w1 hS hok (by decide) rfl hw1) ?_
 refine jl_as (u := .int .i64 ((lenV S x : Nat) : Int)) (congrArg (Value.int .i64) hl2.symm) ?_
 refine jz ?_
 refine jnt ?_
 refine jc_seq ?_
 refine jsr ?_
 refine jz ?_
 refine jz ?_
 refine jz ?_
 refine jz ?_
 refine jy (y_neq rfl rfl) ?_
 refine jl_prop (fun h18 => ?_) (fun h18 => ?_)
 ·first
  | (exfalso; omega)
  | (
   refine jnt ?_
   refine jc_true rfl ?_
   refine jsr ?_
   refine jz ?_
   refine jnt ?_
   refine jc_ret ?_
   refine jq_then_ret ?_
   refine jq_ret1 rfl rfl ?_
   exact fun w' hw => ⟨by unfold blV; rw [if_neg (by omega)], by unfold blS; rw [if_neg (by omega)]; exact hw.updd rfl⟩
   )
 ·first
  | (exfalso; omega)
  | (
   refine jnt ?_
   refine jc_false rfl ?_
   refine jc_skip ?_
   refine jq_then ?_
   refine jc_seq ?_
   refine jsr ?_
   refine jz ?_
   refine jz ?_
   refine jy (y_gtr rfl rfl) ?_
   refine jl_prop (fun h21 => ?_) (fun h21 => ?_)
   ·first
    | (exfalso; omega)
    | (
     refine jz ?_
     refine jsk ?_
     refine jsk ?_
     refine jy (y_pick_true rfl rfl) ?_
     refine jnt ?_
     refine jc_true rfl ?_
     refine jc_region ?_
     refine jz ?_
     refine juc (goes_func rfl) (fun w1 hw1 => cfail_any b _ _ 5 w1 hw1) ?_
     refine jnt ?_
     refine jc_seq ?_
     refine jc_world (fun _ h => h.cast (H' := [.cells b [.string (S.extract (blT S x most).1 S.size), .int .i64 (blT S x most).2]]) (by unfold blT; first | rw [if_pos (by omega)] | rw [if_neg (by omega)])) ?_
     refine jc_region ?_
     refine jz ?_
     refine jz ?_
     refine juc (goes_func rfl) (fun w1 hw1 => takeS_any b S (blT S x most) (lenV S x) w1 hS hokT (by omega) hw1) ?_
     refine jz ?_
     refine jnt ?_
     refine jc_seq ?_
     refine jsr ?_
     refine jz ?_
     refine jz ?_
     refine jz ?_
     refine jz ?_
     refine jy (y_neq rfl rfl) ?_
     refine jl_prop (fun h35 => ?_) (fun h35 => ?_)
     ·first
      | (exfalso; omega)
      | (
       refine jnt ?_
       refine jc_true rfl ?_
       refine jc_region ?_
       refine jz ?_
       refine jz ?_
       refine jz ?_
       refine jz ?_
       refine jst ?_
       refine jnt ?_
       refine jsr ?_
       refine jz ?_
       refine jz ?_
       refine jnt ?_
       refine jc_ret ?_
       refine jq_ret1 rfl rfl ?_
       exact fun w' hw => ⟨by unfold blV; rw [if_pos (by omega)], by unfold blS; rw [if_pos (by omega)]; first | (rw [if_neg (by omega)]; exact hw.updd (A := .cells b [.string (S.extract (x).1 S.size), .int .i64 (x).2]) rfl) | (rw [if_pos (by omega)]; exact hw.updd (A := .cells b [.string (S.extract (x).1 S.size), .int .i64 (x).2]) rfl)⟩
       )
     ·first
      | (exfalso; omega)
      | (
       refine jnt ?_
       refine jc_false rfl ?_
       refine jc_skip ?_
       refine jq_then ?_
       refine jsr ?_
       refine jz ?_
       refine jz ?_
       refine jnt ?_
       refine jc_ret ?_
       refine jq_ret1 rfl rfl ?_
       exact fun w' hw => ⟨by unfold blV; rw [if_pos (by omega)], by unfold blS; rw [if_pos (by omega)]; first | (rw [if_neg (by omega)]; exact hw.updd (A := .cells b [.string (S.extract (x).1 S.size), .int .i64 (x).2]) rfl) | (rw [if_pos (by omega)]; exact hw.updd (A := .cells b [.string (S.extract (x).1 S.size), .int .i64 (x).2]) rfl)⟩
       )
     )
   ·first
    | (exfalso; omega)
    | (
     refine jz ?_
     refine jz ?_
     refine jy (y_gtr rfl rfl) ?_
     refine jl_prop (fun h24 => ?_) (fun h24 => ?_)
     ·first
      | (exfalso; omega)
      | (
       refine jy (y_pick_false rfl rfl) ?_
       refine jnt ?_
       refine jc_true rfl ?_
       refine jc_region ?_
       refine jz ?_
       refine juc (goes_func rfl) (fun w1 hw1 => cfail_any b _ _ 5 w1 hw1) ?_
       refine jnt ?_
       refine jc_seq ?_
       refine jc_world (fun _ h => h.cast (H' := [.cells b [.string (S.extract (blT S x most).1 S.size), .int .i64 (blT S x most).2]]) (by unfold blT; first | rw [if_pos (by omega)] | rw [if_neg (by omega)])) ?_
       refine jc_region ?_
       refine jz ?_
       refine jz ?_
       refine juc (goes_func rfl) (fun w1 hw1 => takeS_any b S (blT S x most) (lenV S x) w1 hS hokT (by omega) hw1) ?_
       refine jz ?_
       refine jnt ?_
       refine jc_seq ?_
       refine jsr ?_
       refine jz ?_
       refine jz ?_
       refine jz ?_
       refine jz ?_
       refine jy (y_neq rfl rfl) ?_
       refine jl_prop (fun h35 => ?_) (fun h35 => ?_)
       ·first
        | (exfalso; omega)
        | (
         refine jnt ?_
         refine jc_true rfl ?_
         refine jc_region ?_
         refine jz ?_
         refine jz ?_
         refine jz ?_
         refine jz ?_
         refine jst ?_
         refine jnt ?_
         refine jsr ?_
         refine jz ?_
         refine jz ?_
         refine jnt ?_
         refine jc_ret ?_
         refine jq_ret1 rfl rfl ?_
         exact fun w' hw => ⟨by unfold blV; rw [if_pos (by omega)], by unfold blS; rw [if_pos (by omega)]; first | (rw [if_neg (by omega)]; exact hw.updd (A := .cells b [.string (S.extract (x).1 S.size), .int .i64 (x).2]) rfl) | (rw [if_pos (by omega)]; exact hw.updd (A := .cells b [.string (S.extract (x).1 S.size), .int .i64 (x).2]) rfl)⟩
         )
       ·first
        | (exfalso; omega)
        | (
         refine jnt ?_
         refine jc_false rfl ?_
         refine jc_skip ?_
         refine jq_then ?_
         refine jsr ?_
         refine jz ?_
         refine jz ?_
         refine jnt ?_
         refine jc_ret ?_
         refine jq_ret1 rfl rfl ?_
         exact fun w' hw => ⟨by unfold blV; rw [if_pos (by omega)], by unfold blS; rw [if_pos (by omega)]; first | (rw [if_neg (by omega)]; exact hw.updd (A := .cells b [.string (S.extract (x).1 S.size), .int .i64 (x).2]) rfl) | (rw [if_pos (by omega)]; exact hw.updd (A := .cells b [.string (S.extract (x).1 S.size), .int .i64 (x).2]) rfl)⟩
         )
       )
     ·first
      | (exfalso; omega)
      | (
       refine jy (y_pick_false rfl rfl) ?_
       refine jnt ?_
       refine jc_false rfl ?_
       refine jc_skip ?_
       refine jq_then ?_
       refine jc_seq ?_
       refine jc_world (fun _ h => h.cast (H' := [.cells b [.string (S.extract (blT S x most).1 S.size), .int .i64 (blT S x most).2]]) (by unfold blT; first | rw [if_pos (by omega)] | rw [if_neg (by omega)])) ?_
       refine jc_region ?_
       refine jz ?_
       refine jz ?_
       refine juc (goes_func rfl) (fun w1 hw1 => takeS_any b S (blT S x most) (lenV S x) w1 hS hokT (by omega) hw1) ?_
       refine jz ?_
       refine jnt ?_
       refine jc_seq ?_
       refine jsr ?_
       refine jz ?_
       refine jz ?_
       refine jz ?_
       refine jz ?_
       refine jy (y_neq rfl rfl) ?_
       refine jl_prop (fun h35 => ?_) (fun h35 => ?_)
       ·first
        | (exfalso; omega)
        | (
         refine jnt ?_
         refine jc_true rfl ?_
         refine jc_region ?_
         refine jz ?_
         refine jz ?_
         refine jz ?_
         refine jz ?_
         refine jst ?_
         refine jnt ?_
         refine jsr ?_
         refine jz ?_
         refine jz ?_
         refine jnt ?_
         refine jc_ret ?_
         refine jq_ret1 rfl rfl ?_
         exact fun w' hw => ⟨by unfold blV; rw [if_pos (by omega)], by unfold blS; rw [if_pos (by omega)]; first | (rw [if_neg (by omega)]; exact hw.updd (A := .cells b [.string (S.extract (x).1 S.size), .int .i64 (x).2]) rfl) | (rw [if_pos (by omega)]; exact hw.updd (A := .cells b [.string (S.extract (x).1 S.size), .int .i64 (x).2]) rfl)⟩
         )
       ·first
        | (exfalso; omega)
        | (
         refine jnt ?_
         refine jc_false rfl ?_
         refine jc_skip ?_
         refine jq_then ?_
         refine jsr ?_
         refine jz ?_
         refine jz ?_
         refine jnt ?_
         refine jc_ret ?_
         refine jq_ret1 rfl rfl ?_
         exact fun w' hw => ⟨by unfold blV; rw [if_pos (by omega)], by unfold blS; rw [if_pos (by omega)]; first | (rw [if_neg (by omega)]; exact hw.updd (A := .cells b [.string (S.extract (x).1 S.size), .int .i64 (x).2]) rfl) | (rw [if_pos (by omega)]; exact hw.updd (A := .cells b [.string (S.extract (x).1 S.size), .int .i64 (x).2]) rfl)⟩
         )
       )
     )
   )

theorem cleft3_any (b : Nat) (S : ByteArray) (x : RS) (w : World) (hok : okR S x) (h0 : CellAt w b 0 (.string (S.extract x.1 S.size))) :
  Calls Tryz.prog 86 #[.pointer (some ⟨b, 0, none⟩)] w fun e w' => e = .returned (.int .i64 ((S.size : Nat) - (x.1 : Nat) : Int)) ∧ Ch [] w w' := by
 refine calls_of (n := 8) (E := [(0, .pointer (some ⟨b, 0, none⟩))]) (W := Hp w [] []) Tryz.func86 rfl rfl (Nat.le_of_ble_eq_true rfl) rfl (Hp.nil _ _) ?_
 refine jsr ?_
 refine jz ?_
 refine jnt ?_
 refine jsr ?_
 refine jz ?_
 refine jz ?_
 refine jz ?_
 refine jy (y_load_old rfl h0 (by simp)) ?_
 refine jy (y_len_str rfl) ?_
 refine jl_as (u := .int .i64 ((S.size : Nat) - (x.1 : Nat) : Int)) (congrArg (Value.int .i64) (by rw [ext_size hok]; unfold okR at hok; omega)) ?_
 refine jz ?_
 refine jnt ?_
 refine jc_ret ?_
 refine jq_ret1 rfl rfl ?_
 exact fun _ hw => ⟨rfl, hw.ch⟩

theorem cend_any (b : Nat) (S : ByteArray) (x : RS) (w : World) (hok : okR S x) (h0 : CellAt w b 0 (.string (S.extract x.1 S.size))) (h1 : CellAt w b 1 (.int .i64 x.2)) :
  Calls Tryz.prog 84 #[.pointer (some ⟨b, 0, none⟩)] w fun e w' => e = .returned (.int .i64 (endE S x)) ∧ Ch [] w w' := by
 refine calls_of (n := 19) (E := [(0, .pointer (some ⟨b, 0, none⟩))]) (W := Hp w [] []) Tryz.func84 rfl rfl (Nat.le_of_ble_eq_true rfl) rfl (Hp.nil _ _) ?_
 refine jsr ?_
 refine jz ?_
 refine jnt ?_
 refine jc_seq ?_
 refine jsr ?_
 refine jz ?_
 refine jz ?_
 refine jz ?_
 refine jy (y_load_old rfl h1 (by simp)) ?_
 refine jy (y_eql rfl rfl) ?_
 refine jl_prop (fun h7 => ?_) (fun h7 => ?_)
 ·first
  | (exfalso; omega)
  | (
   refine jz ?_
   refine jz ?_
   refine jz ?_
   refine jz ?_
   refine jy (y_load_old rfl h0 (by simp)) ?_
   refine jy (y_sneq rfl rfl) ?_
   refine jl_bool (fun h13 => ?_) (fun h13 => ?_)
   ·skip
    refine jy (y_pick_true rfl rfl) ?_
    refine jnt ?_
    refine jc_true rfl ?_
    refine jsr ?_
    refine jz ?_
    refine jnt ?_
    refine jc_ret ?_
    refine jq_then_ret ?_
    refine jq_ret1 rfl rfl ?_
    exact fun _ hw => ⟨by unfold endE; rw [if_pos ⟨by omega, Decidable.byContradiction (fun h => by have := (ext_none hok).2 h; simp_all)⟩], hw.ch⟩
   ·skip
    refine jy (y_pick_true rfl rfl) ?_
    refine jnt ?_
    refine jc_false rfl ?_
    refine jc_skip ?_
    refine jq_then ?_
    refine jsr ?_
    refine jz ?_
    refine jz ?_
    refine jz ?_
    refine jy (y_load_old rfl h1 (by simp)) ?_
    refine jz ?_
    refine jnt ?_
    refine jc_ret ?_
    refine jq_ret1 rfl rfl ?_
    exact fun _ hw => ⟨by unfold endE; rw [if_neg (fun h => by first | omega | (have := fun h2 => (ext_none hok).1 h2; simp_all))], hw.ch⟩
   )
 ·first
  | (exfalso; omega)
  | (
   refine jz ?_
   refine jsk ?_
   refine jsk ?_
   refine jsk ?_
   refine jsk ?_
   refine jsk ?_
   refine jy (y_pick_false rfl rfl) ?_
   refine jnt ?_
   refine jc_false rfl ?_
   refine jc_skip ?_
   refine jq_then ?_
   refine jsr ?_
   refine jz ?_
   refine jz ?_
   refine jz ?_
   refine jy (y_load_old rfl h1 (by simp)) ?_
   refine jz ?_
   refine jnt ?_
   refine jc_ret ?_
   refine jq_ret1 rfl rfl ?_
   exact fun _ hw => ⟨by unfold endE; rw [if_neg (fun h => by first | omega | (have := fun h2 => (ext_none hok).1 h2; simp_all))], hw.ch⟩
   )

theorem cread_any (S : ByteArray) (w : World) :
  Calls Tryz.prog 77 #[.string S] w fun e w' => ∃ b, e = .returned (.pointer (some ⟨b, 0, none⟩)) ∧ Fresh w w' (.cells b [.string S, .int .i64 0]) := by
 refine calls_of (n := 6) (E := [(0, .string S)]) (W := Hp w [] []) Tryz.func77 rfl rfl (Nat.le_of_ble_eq_true rfl) rfl (Hp.nil _ _) ?_
 refine jsr ?_
 refine jz ?_
 refine jnt ?_
 refine jsr ?_
 refine jz ?_
 refine jy (y_build (Built.cell rfl rfl rfl (by repeat constructor) Built.nil)) ?_
 refine jl_m rfl (by decide) rfl (m_box rfl rfl) (fun b5 => ?_)
 refine jz ?_
 refine jnt ?_
 refine jc_ret ?_
 refine jq_ret1 rfl rfl ?_
 exact fun w' hw => ⟨b5, rfl, hw.fresh⟩

end Go.Proofs.YtomhcibbalhgkaaGreat