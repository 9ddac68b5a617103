/- The walks of the laws of layer 2. Written by program (walk.py) out of a table of contracts and invariants. -/
import Derived.Test.YtfghgngobbhiiaaTd
namespace Go.Proofs.Ytfghgngobbhiiaa
open Go.RowKit
set_option maxRecDepth 100000
set_option linter.unusedVariables false
set_option linter.unusedSimpArgs false
def digitF (x : Int) : Int := if 48 ≤ x ∧ x ≤ 57 then x - 48 else if 97 ≤ x ∧ x ≤ 102 then x - 97 + 10 else -1000
theorem digitF_hexD (n : Int) (h0 : 0 ≤ n) (h1 : n < 16) : digitF (hexD n) = n := by
  unfold digitF hexD
  split
  · rw [if_pos (by omega)]; omega
  · rw [if_neg (by omega), if_pos (by omega)]; omega
theorem hexD_range (n : Int) (h0 : 0 ≤ n) (h1 : n < 16) : 0 ≤ hexD n ∧ hexD n ≤ 255 := by unfold hexD; split <;> omega
theorem hexL_range : ∀ (l : List Int), (∀ x ∈ l, 0 ≤ x ∧ x ≤ 255) → ∀ x ∈ hexL l, 0 ≤ x ∧ x ≤ 255
  | [], _, x, hx => by simp [hexL] at hx
  | c :: cs, h, x, hx => by
    have hc := h c (by simp)
    simp only [hexL, List.flatMap_cons, List.mem_append, List.mem_cons, List.not_mem_nil, or_false] at hx
    rcases hx with (rfl | rfl) | hx
    · exact hexD_range _ (by omega) (by omega)
    · exact hexD_range _ (by omega) (by omega)
    · exact hexL_range cs (fun y hy => h y (by simp [hy])) x hx
theorem hexL_get : ∀ (l : List Int) (i : Nat), i < l.length → (hexL l).getD (2 * i) 0 = hexD (l.getD i 0 / 16) ∧ (hexL l).getD (2 * i + 1) 0 = hexD (l.getD i 0 % 16)
  | c :: cs, 0, _ => by simp [hexL]
  | c :: cs, i + 1, h => by
    have := hexL_get cs i (by simpa using h)
    have e : hexL (c :: cs) = hexD (c / 16) :: hexD (c % 16) :: hexL cs := rfl
    rw [e, Nat.mul_succ]
    exact this
theorem ints_hexS (s : ByteArray) : ints (hexS s) = hexL (ints s) := ints_str _ (hexL_range _ fun _ h => ints_range h)
theorem fixed_abc : hexS (sumS ⟨#[97, 98, 99]⟩) = ⟨#[98, 97, 55, 56, 49, 54, 98, 102, 56, 102, 48, 49, 99, 102, 101, 97, 52, 49, 52, 49, 52, 48, 100, 101, 53, 100, 97, 101, 50, 50, 50, 51, 98, 48, 48, 51, 54, 49, 97, 51, 57, 54, 49, 55, 55, 97, 57, 99, 98, 52, 49, 48, 102, 102, 54, 49, 102, 50, 48, 48, 49, 53, 97, 100]⟩ := by decide +kernel
theorem fixed_none : hexS (sumS ⟨#[]⟩) = ⟨#[101, 51, 98, 48, 99, 52, 52, 50, 57, 56, 102, 99, 49, 99, 49, 52, 57, 97, 102, 98, 102, 52, 99, 56, 57, 57, 54, 102, 98, 57, 50, 52, 50, 55, 97, 101, 52, 49, 101, 52, 54, 52, 57, 98, 57, 51, 52, 99, 97, 52, 57, 53, 57, 57, 49, 98, 55, 56, 53, 50, 98, 56, 53, 53]⟩ := by decide +kernel
theorem fixed_tag : tagPre ⟨#[120]⟩ [⟨#[97, 98]⟩] = ⟨#[1, 120, 0, 2, 97, 98]⟩ := by decide +kernel
theorem fixed_join : (⟨#[]⟩ ++ ⟨#[97]⟩ : ByteArray) ++ ⟨#[98, 99]⟩ = ⟨#[97, 98, 99]⟩ := by decide +kernel
def cutS (s : ByteArray) (n : Nat) : ByteArray := s.extract 0 (min s.size n)
theorem cutS_size (s : ByteArray) (n : Nat) : (cutS s n).size ≤ n := by simp [cutS]; omega
theorem cut_eq (s : ByteArray) (n : Nat) : s.extract 0 (min (s.size : Int) (n : Int)).toNat = cutS s n := by
  unfold cutS; congr 1; omega
theorem app_empty (s : ByteArray) : s ++ (⟨#[]⟩ : ByteArray) = s := ByteArray.append_empty
theorem all_snoc {l : List ByteArray} {x : ByteArray} {n : Nat} (h : ∀ p ∈ l, p.size ≤ n) (hx : x.size ≤ n) : ∀ p ∈ l ++ [x], p.size ≤ n := by
  intro p hp
  rcases List.mem_append.1 hp with hp | hp
  · exact h p hp
  · rw [List.mem_singleton.1 hp]; exact hx
theorem parts_order (w x : ByteArray) (hw : x.size ≤ 255) : strOfNums [(w.size : Int) % 256] ++ w ++ strOfNums [0, (x.size : Int) % 256] ++ x = tagPre w [x] := by
  have h : (x.size : Int) / 256 % 256 = 0 := by omega
  simp only [tagPre, List.foldl_cons, List.foldl_nil, partS, oneB, h, ByteArray.append_assoc]
theorem parts_order2 (w x y : ByteArray) (hy : y.size ≤ 255) : tagPre w [x] ++ strOfNums [0, (y.size : Int) % 256] ++ y = tagPre w [x, y] := by
  have h : (y.size : Int) / 256 % 256 = 0 := by omega
  simp only [tagPre, List.foldl_cons, List.foldl_nil, partS, h, ByteArray.append_assoc]

theorem digit_any (x : Int) (w : World) (h0 : 0 ≤ x) (h1 : x ≤ 255) :
    Calls Try.prog 24 #[.int .u8 x] w fun e w' => e = .returned (.int .i64 (digitF x)) ∧ Ch [] w w' := by
  refine calls_of (n := 22) (E := [(0, .int .u8 x)]) (W := Hp w [] []) Try.func24 rfl rfl (Nat.le_of_ble_eq_true rfl) rfl (Hp.nil _ _) ?_
  refine jc_seq ?_
  -- region 0
  refine jc_region ?_
  refine jl_y rfl (by decide) rfl (y_assign rfl) ?_
  refine jl_nil ?_
  refine jq_then ?_
  refine jc_seq ?_
  refine jc_seq ?_
  -- region 1
  refine jc_region ?_
  refine jl_y rfl (by decide) rfl (y_move rfl) ?_
  refine jl_y rfl (by decide) rfl (y_geq rfl rfl) ?_
  refine jl_prop (fun h4 => ?_) (fun h4 => ?_)
  · first
    | (exfalso; omega)
    | (
      refine jl_y rfl (by decide) rfl (y_move rfl) ?_
      refine jl_y rfl (by decide) rfl (y_move rfl) ?_
      refine jl_y rfl (by decide) rfl (y_leq rfl rfl) ?_
      refine jl_prop (fun h7 => ?_) (fun h7 => ?_)
      · first
        | (exfalso; omega)
        | (
          refine jl_y rfl (by decide) rfl (y_pick_true rfl rfl) ?_
          refine jl_nil ?_
          refine jq_then ?_
          refine jc_true rfl ?_
          refine jc_seq ?_
          -- region 2
          refine jc_region ?_
          refine jl_y rfl (by decide) rfl (y_move rfl) ?_
          refine jl_y rfl (by decide) rfl (y_sub_fits rfl rfl (by simp only [fits]; omega)) ?_
          first | refine jl_y rfl (by decide) rfl (y_conv_fits rfl (by simp only [fits]; omega)) ?_
          refine jl_y rfl (by decide) rfl (y_assign rfl) ?_
          refine jl_nil ?_
          refine jq_then ?_
          refine jc_ret ?_
          refine jq_then_ret ?_
          refine jq_ret1 rfl rfl ?_
          exact fun _ hw => ⟨congrArg (fun z => Ending.returned (Value.int .i64 z)) (by unfold digitF; first | (rw [if_pos (by omega)]) | (rw [if_neg (by omega), if_pos (by omega)]) | (rw [if_neg (by omega), if_neg (by omega)])), hw.ch⟩
          )
      · first
        | (exfalso; omega)
        | (
          refine jl_y rfl (by decide) rfl (y_pick_true rfl rfl) ?_
          refine jl_nil ?_
          refine jq_then ?_
          refine jc_false rfl ?_
          refine jc_skip ?_
          refine jq_then ?_
          refine jc_seq ?_
          refine jc_seq ?_
          -- region 3
          refine jc_region ?_
          refine jl_y rfl (by decide) rfl (y_move rfl) ?_
          refine jl_y rfl (by decide) rfl (y_geq rfl rfl) ?_
          refine jl_prop (fun h13 => ?_) (fun h13 => ?_)
          · first
            | (exfalso; omega)
            | (
              refine jl_y rfl (by decide) rfl (y_move rfl) ?_
              refine jl_y rfl (by decide) rfl (y_move rfl) ?_
              refine jl_y rfl (by decide) rfl (y_leq rfl rfl) ?_
              refine jl_prop (fun h16 => ?_) (fun h16 => ?_)
              · first
                | (exfalso; omega)
                | (
                  refine jl_y rfl (by decide) rfl (y_pick_true rfl rfl) ?_
                  refine jl_nil ?_
                  refine jq_then ?_
                  refine jc_true rfl ?_
                  refine jc_seq ?_
                  -- region 4
                  refine jc_region ?_
                  refine jl_y rfl (by decide) rfl (y_move rfl) ?_
                  refine jl_y rfl (by decide) rfl (y_sub_fits rfl rfl (by simp only [fits]; omega)) ?_
                  first | refine jl_y rfl (by decide) rfl (y_conv_fits rfl (by simp only [fits]; omega)) ?_
                  refine jl_y rfl (by decide) rfl (y_add_fits rfl rfl (by simp only [fits]; omega)) ?_
                  refine jl_y rfl (by decide) rfl (y_assign rfl) ?_
                  refine jl_nil ?_
                  refine jq_then ?_
                  refine jc_ret ?_
                  refine jq_then_ret ?_
                  refine jq_ret1 rfl rfl ?_
                  exact fun _ hw => ⟨congrArg (fun z => Ending.returned (Value.int .i64 z)) (by unfold digitF; first | (rw [if_pos (by omega)]) | (rw [if_neg (by omega), if_pos (by omega)]) | (rw [if_neg (by omega), if_neg (by omega)])), hw.ch⟩
                  )
              · first
                | (exfalso; omega)
                | (
                  refine jl_y rfl (by decide) rfl (y_pick_true rfl rfl) ?_
                  refine jl_nil ?_
                  refine jq_then ?_
                  refine jc_false rfl ?_
                  refine jc_skip ?_
                  refine jq_then ?_
                  refine jc_seq ?_
                  -- region 5
                  refine jc_region ?_
                  refine jl_y rfl (by decide) rfl (y_assign rfl) ?_
                  refine jl_nil ?_
                  refine jq_then ?_
                  refine jc_ret ?_
                  refine jq_ret1 rfl rfl ?_
                  exact fun _ hw => ⟨congrArg (fun z => Ending.returned (Value.int .i64 z)) (by unfold digitF; first | (rw [if_pos (by omega)]) | (rw [if_neg (by omega), if_pos (by omega)]) | (rw [if_neg (by omega), if_neg (by omega)])), hw.ch⟩
                  )
              )
          · first
            | (exfalso; omega)
            | (
              refine jl_y rfl (by decide) rfl (y_move rfl) ?_
              refine jl_skip rfl (by decide) rfl ?_
              refine jl_skip rfl (by decide) rfl ?_
              refine jl_y rfl (by decide) rfl (y_pick_false rfl rfl) ?_
              refine jl_nil ?_
              refine jq_then ?_
              refine jc_false rfl ?_
              refine jc_skip ?_
              refine jq_then ?_
              refine jc_seq ?_
              -- region 5
              refine jc_region ?_
              refine jl_y rfl (by decide) rfl (y_assign rfl) ?_
              refine jl_nil ?_
              refine jq_then ?_
              refine jc_ret ?_
              refine jq_ret1 rfl rfl ?_
              exact fun _ hw => ⟨congrArg (fun z => Ending.returned (Value.int .i64 z)) (by unfold digitF; first | (rw [if_pos (by omega)]) | (rw [if_neg (by omega), if_pos (by omega)]) | (rw [if_neg (by omega), if_neg (by omega)])), hw.ch⟩
              )
          )
      )
  · first
    | (exfalso; omega)
    | (
      refine jl_y rfl (by decide) rfl (y_move rfl) ?_
      refine jl_skip rfl (by decide) rfl ?_
      refine jl_skip rfl (by decide) rfl ?_
      refine jl_y rfl (by decide) rfl (y_pick_false rfl rfl) ?_
      refine jl_nil ?_
      refine jq_then ?_
      refine jc_false rfl ?_
      refine jc_skip ?_
      refine jq_then ?_
      refine jc_seq ?_
      refine jc_seq ?_
      -- region 3
      refine jc_region ?_
      refine jl_y rfl (by decide) rfl (y_move rfl) ?_
      refine jl_y rfl (by decide) rfl (y_geq rfl rfl) ?_
      refine jl_prop (fun h13 => ?_) (fun h13 => ?_)
      · first
        | (exfalso; omega)
        | (
          refine jl_y rfl (by decide) rfl (y_move rfl) ?_
          refine jl_y rfl (by decide) rfl (y_move rfl) ?_
          refine jl_y rfl (by decide) rfl (y_leq rfl rfl) ?_
          refine jl_prop (fun h16 => ?_) (fun h16 => ?_)
          · first
            | (exfalso; omega)
            | (
              refine jl_y rfl (by decide) rfl (y_pick_true rfl rfl) ?_
              refine jl_nil ?_
              refine jq_then ?_
              refine jc_true rfl ?_
              refine jc_seq ?_
              -- region 4
              refine jc_region ?_
              refine jl_y rfl (by decide) rfl (y_move rfl) ?_
              refine jl_y rfl (by decide) rfl (y_sub_fits rfl rfl (by simp only [fits]; omega)) ?_
              first | refine jl_y rfl (by decide) rfl (y_conv_fits rfl (by simp only [fits]; omega)) ?_
              refine jl_y rfl (by decide) rfl (y_add_fits rfl rfl (by simp only [fits]; omega)) ?_
              refine jl_y rfl (by decide) rfl (y_assign rfl) ?_
              refine jl_nil ?_
              refine jq_then ?_
              refine jc_ret ?_
              refine jq_then_ret ?_
              refine jq_ret1 rfl rfl ?_
              exact fun _ hw => ⟨congrArg (fun z => Ending.returned (Value.int .i64 z)) (by unfold digitF; first | (rw [if_pos (by omega)]) | (rw [if_neg (by omega), if_pos (by omega)]) | (rw [if_neg (by omega), if_neg (by omega)])), hw.ch⟩
              )
          · first
            | (exfalso; omega)
            | (
              refine jl_y rfl (by decide) rfl (y_pick_true rfl rfl) ?_
              refine jl_nil ?_
              refine jq_then ?_
              refine jc_false rfl ?_
              refine jc_skip ?_
              refine jq_then ?_
              refine jc_seq ?_
              -- region 5
              refine jc_region ?_
              refine jl_y rfl (by decide) rfl (y_assign rfl) ?_
              refine jl_nil ?_
              refine jq_then ?_
              refine jc_ret ?_
              refine jq_ret1 rfl rfl ?_
              exact fun _ hw => ⟨congrArg (fun z => Ending.returned (Value.int .i64 z)) (by unfold digitF; first | (rw [if_pos (by omega)]) | (rw [if_neg (by omega), if_pos (by omega)]) | (rw [if_neg (by omega), if_neg (by omega)])), hw.ch⟩
              )
          )
      · first
        | (exfalso; omega)
        | (
          refine jl_y rfl (by decide) rfl (y_move rfl) ?_
          refine jl_skip rfl (by decide) rfl ?_
          refine jl_skip rfl (by decide) rfl ?_
          refine jl_y rfl (by decide) rfl (y_pick_false rfl rfl) ?_
          refine jl_nil ?_
          refine jq_then ?_
          refine jc_false rfl ?_
          refine jc_skip ?_
          refine jq_then ?_
          refine jc_seq ?_
          -- region 5
          refine jc_region ?_
          refine jl_y rfl (by decide) rfl (y_assign rfl) ?_
          refine jl_nil ?_
          refine jq_then ?_
          refine jc_ret ?_
          refine jq_ret1 rfl rfl ?_
          exact fun _ hw => ⟨congrArg (fun z => Ending.returned (Value.int .i64 z)) (by unfold digitF; first | (rw [if_pos (by omega)]) | (rw [if_neg (by omega), if_pos (by omega)]) | (rw [if_neg (by omega), if_neg (by omega)])), hw.ch⟩
          )
      )

theorem fixed_any (w : World) :
    Calls Try.prog 16 #[] w fun e w' => e = .returned (.bool true) ∧ Ch [] w w' := by
  refine calls_of (n := 39) (E := []) (W := Hp w [] []) Try.func16 rfl rfl (Nat.le_of_ble_eq_true rfl) rfl (Hp.nil _ _) ?_
  refine jc_seq ?_
  -- region 0
  refine jc_region ?_
  refine jl_y rfl (by decide) rfl (y_assign rfl) ?_
  refine jl_nil ?_
  refine jq_then ?_
  refine jc_seq ?_
  -- region 1
  refine jc_region ?_
  refine jl_fcall rfl (by decide) rfl (goes_func rfl) (fun w1 hw1 => new_any w1) (fun bh => ?_)
  refine jl_y rfl (by decide) rfl (y_assign rfl) ?_
  refine jl_nil ?_
  refine jq_then ?_
  refine jc_seq ?_
  refine jc_seq ?_
  -- region 2
  refine jc_region ?_
  refine jl_y rfl (by decide) rfl (y_move rfl) ?_
  refine jl_y rfl (by decide) rfl (y_eql_nil rfl rfl) ?_
  refine jl_as (u := .bool false) rfl ?_
  refine jl_nil ?_
  refine jq_then ?_
  refine jc_false rfl ?_
  refine jc_skip ?_
  refine jq_then ?_
  refine jc_seq ?_
  -- region 4
  refine jc_region ?_
  refine jl_y rfl (by decide) rfl (y_move rfl) ?_
  refine jl_ucall rfl (by decide) rfl (goes_func rfl) (by rfl) (fun w1 hw1 => write_any _ ⟨#[]⟩ ⟨#[97]⟩ w1 (by decide) (by decide) hw1) (by first | exact rep0 | exact rep1 | exact rep2 | exact rep3 | exact rep4) ?_
  refine jl_nil ?_
  refine jq_then ?_
  refine jc_seq ?_
  -- region 5
  refine jc_region ?_
  refine jl_y rfl (by decide) rfl (y_move rfl) ?_
  refine jl_ucall rfl (by decide) rfl (goes_func rfl) (by rfl) (fun w1 hw1 => write_any _ (⟨#[]⟩ ++ ⟨#[97]⟩) ⟨#[98, 99]⟩ w1 (by decide) (by decide) hw1) (by first | exact rep0 | exact rep1 | exact rep2 | exact rep3 | exact rep4) ?_
  refine jl_nil ?_
  refine jq_then ?_
  refine jc_seq ?_
  -- region 6
  refine jc_region ?_
  refine jl_pcall rfl (by decide) rfl (goes_func rfl) (fun w1 hw1 => pcall hw1 (sum_any _ w1 (by decide))) ?_
  refine jl_pcall rfl (by decide) rfl (goes_func rfl) (fun w1 hw1 => pcall hw1 (hex_any (sumS _) w1 (by rw [sumS_size]; decide))) ?_
  refine jl_y rfl (by decide) rfl (y_seql rfl rfl) ?_
  refine jl_as (u := .bool true) (congrArg (fun b => Value.bool b) (decide_eq_true (fixed_abc))) ?_
  refine jl_y rfl (by decide) rfl (y_move rfl) ?_
  refine jl_pcall rfl (by decide) rfl (goes_func rfl) (fun w1 hw1 => pcall hw1 (sum_any _ w1 (by decide))) ?_
  refine jl_pcall rfl (by decide) rfl (goes_func rfl) (fun w1 hw1 => pcall hw1 (hex_any (sumS _) w1 (by rw [sumS_size]; decide))) ?_
  refine jl_y rfl (by decide) rfl (y_seql rfl rfl) ?_
  refine jl_as (u := .bool true) (congrArg (fun b => Value.bool b) (decide_eq_true (fixed_none))) ?_
  refine jl_y rfl (by decide) rfl (y_pick_true rfl rfl) ?_
  refine jl_y rfl (by decide) rfl (y_move rfl) ?_
  refine jl_y rfl (by decide) rfl (y_move rfl) ?_
  refine jl_pcall rfl (by decide) rfl (goes_func rfl) (fun w1 hw1 => pcall hw1 (hsum_any _ (⟨#[]⟩ ++ ⟨#[97]⟩ ++ ⟨#[98, 99]⟩) w1 (by decide) (old_left (hw1.get mem0)) (old_n (hw1.get mem0)) (old_st (hw1.get mem0)))) ?_
  refine jl_pcall rfl (by decide) rfl (goes_func rfl) (fun w1 hw1 => pcall hw1 (sum_any _ w1 (by decide))) ?_
  refine jl_y rfl (by decide) rfl (y_seql rfl rfl) ?_
  refine jl_as (u := .bool true) (congrArg (fun b => Value.bool b) (decide_eq_true (by rw [fixed_join]))) ?_
  refine jl_y rfl (by decide) rfl (y_pick_true rfl rfl) ?_
  refine jl_y rfl (by decide) rfl (y_move rfl) ?_
  refine jl_y rfl (by decide) rfl (y_move rfl) ?_
  refine jl_pcall rfl (by decide) rfl (goes_func rfl) (fun w1 hw1 => pcall hw1 (len_any _ (⟨#[]⟩ ++ ⟨#[97]⟩ ++ ⟨#[98, 99]⟩) w1 (old_n (hw1.get mem0)))) ?_
  refine jl_y rfl (by decide) rfl (y_eql rfl rfl) ?_
  refine jl_prop (fun h26 => ?_) (fun h26 => ?_)
  · first
    | (exfalso; omega)
    | (
      refine jl_y rfl (by decide) rfl (y_pick_true rfl rfl) ?_
      refine jl_y rfl (by decide) rfl (y_move rfl) ?_
      refine jl_pcall rfl (by decide) rfl (goes_func rfl) (fun w1 hw1 => pcall hw1 (short_any _ w1 (by decide))) ?_
      refine jl_y rfl (by decide) rfl (y_len_str rfl) ?_
      refine jl_y rfl (by decide) rfl (y_eql rfl rfl) ?_
      refine jl_prop (fun h31 => ?_) (fun h31 => ?_)
      · first
        | (exfalso; omega)
        | (
          refine jl_y rfl (by decide) rfl (y_pick_true rfl rfl) ?_
          refine jl_y rfl (by decide) rfl (y_move rfl) ?_
          refine jl_m rfl (by decide) rfl (m_buildSlice (by decide) (Built.cell rfl rfl rfl (by repeat constructor) Built.nil)) (fun b34 => ?_)
          refine jl_pcall rfl (by decide) rfl (goes_func rfl) (fun w1 hw1 => pcall hw1 (tag_any ⟨#[120]⟩ (some ⟨b34, 0, none⟩) 1 [⟨#[97, 98]⟩] w1 (by decide) (by decide) (by intro p hp; rw [List.mem_singleton.1 hp]; decide) (Strs.of_row (hw1.get mem0)))) ?_
          refine jl_pcall rfl (by decide) rfl (goes_func rfl) (fun w1 hw1 => pcall hw1 (short_any _ w1 (by decide))) ?_
          refine jl_y rfl (by decide) rfl (y_seql rfl rfl) ?_
          refine jl_as (u := .bool true) (congrArg (fun b => Value.bool b) (decide_eq_true (congrArg shortS fixed_tag))) ?_
          refine jl_y rfl (by decide) rfl (y_pick_true rfl rfl) ?_
          refine jl_y rfl (by decide) rfl (y_assign rfl) ?_
          refine jl_nil ?_
          refine jq_then ?_
          refine jc_ret ?_
          refine jq_ret1 rfl rfl ?_
          exact fun _ hw => ⟨rfl, hw.ch⟩
          )
      · exact absurd (by rw [shortS_size]; rfl) h31
      )
  · exact absurd (by decide) h26

theorem shaSums_any (s : ByteArray) (w : World) :
    Calls Try.prog 3 #[.string s] w fun e w' => e = .returned (.bool true) ∧ Ch [] w w' := by
  refine calls_of (n := 30) (E := [(0, .string s)]) (W := Hp w [] []) Try.func3 rfl rfl (Nat.le_of_ble_eq_true rfl) rfl (Hp.nil _ _) ?_
  refine jc_seq ?_
  -- region 0
  refine jc_region ?_
  refine jl_y rfl (by decide) rfl (y_assign rfl) ?_
  refine jl_nil ?_
  refine jq_then ?_
  refine jc_seq ?_
  -- region 1
  refine jc_region ?_
  refine jl_y rfl (by decide) rfl (y_move rfl) ?_
  refine jl_y rfl (by decide) rfl (y_move rfl) ?_
  refine jl_y rfl (by decide) rfl (y_len_str rfl) ?_
  refine jl_y rfl (by decide) rfl (y_min rfl rfl) ?_
  refine jl_y rfl (by decide) rfl (y_substr_hi rfl rfl (by omega) (by omega)) ?_
  refine jl_as (u := .string (cutS s 600)) (congrArg Value.string (cut_eq s 600)) ?_
  refine jl_y rfl (by decide) rfl (y_assign rfl) ?_
  refine jl_nil ?_
  refine jq_then ?_
  refine jc_seq ?_
  -- region 2
  have hc := cutS_size s 600
  refine jc_region ?_
  refine jl_y rfl (by decide) rfl (y_move rfl) ?_
  refine jl_pcall rfl (by decide) rfl (goes_func rfl) (fun w1 hw1 => pcall hw1 (sum_any _ w1 (by omega))) ?_
  refine jl_y rfl (by decide) rfl (y_move rfl) ?_
  refine jl_pcall rfl (by decide) rfl (goes_func rfl) (fun w1 hw1 => pcall hw1 (rsum_any _ w1 (by omega))) ?_
  refine jl_y rfl (by decide) rfl (y_seql rfl rfl) ?_
  refine jl_as (u := .bool true) (congrArg (fun b => Value.bool b) (decide_eq_true (rfl))) ?_
  refine jl_y rfl (by decide) rfl (y_move rfl) ?_
  refine jl_y rfl (by decide) rfl (y_move rfl) ?_
  refine jl_pcall rfl (by decide) rfl (goes_func rfl) (fun w1 hw1 => pcall hw1 (short_any _ w1 (by omega))) ?_
  refine jl_y rfl (by decide) rfl (y_move rfl) ?_
  refine jl_pcall rfl (by decide) rfl (goes_func rfl) (fun w1 hw1 => pcall hw1 (rshort_any _ w1 (by omega))) ?_
  refine jl_y rfl (by decide) rfl (y_seql rfl rfl) ?_
  refine jl_as (u := .bool true) (congrArg (fun b => Value.bool b) (decide_eq_true (rfl))) ?_
  refine jl_y rfl (by decide) rfl (y_pick_true rfl rfl) ?_
  refine jl_y rfl (by decide) rfl (y_move rfl) ?_
  refine jl_y rfl (by decide) rfl (y_move rfl) ?_
  refine jl_pcall rfl (by decide) rfl (goes_func rfl) (fun w1 hw1 => pcall hw1 (hex_any _ w1 (by omega))) ?_
  refine jl_y rfl (by decide) rfl (y_move rfl) ?_
  refine jl_pcall rfl (by decide) rfl (goes_func rfl) (fun w1 hw1 => pcall hw1 (rhex_any _ w1 (by omega))) ?_
  refine jl_y rfl (by decide) rfl (y_seql rfl rfl) ?_
  refine jl_as (u := .bool true) (congrArg (fun b => Value.bool b) (decide_eq_true (rfl))) ?_
  refine jl_y rfl (by decide) rfl (y_pick_true rfl rfl) ?_
  refine jl_y rfl (by decide) rfl (y_move rfl) ?_
  refine jl_pcall rfl (by decide) rfl (goes_func rfl) (fun w1 hw1 => pcall hw1 (fixed_any w1)) ?_
  refine jl_y rfl (by decide) rfl (y_pick_true rfl rfl) ?_
  refine jl_y rfl (by decide) rfl (y_assign rfl) ?_
  refine jl_nil ?_
  refine jq_then ?_
  refine jc_ret ?_
  refine jq_ret1 rfl rfl ?_
  exact fun _ hw => ⟨rfl, hw.ch⟩

theorem shaTags_any (word : ByteArray) (ad : Option Addr) (c : Nat) (ps : List ByteArray) (w : World) (hps : Strs w ad ps) :
    Calls Try.prog 4 #[.string word, .slice ad ps.length c] w fun e w' => e = .returned (.bool true) ∧ Ch [] w w' := by
  refine calls_of (n := 47) (E := [(0, .string word), (1, .slice ad ps.length c)]) (W := Hp w [] []) Try.func4 rfl rfl (Nat.le_of_ble_eq_true rfl) rfl (Hp.nil _ _) ?_
  refine jc_seq ?_
  -- region 0
  refine jc_region ?_
  refine jl_y rfl (by decide) rfl (y_assign rfl) ?_
  refine jl_nil ?_
  refine jq_then ?_
  refine jc_seq ?_
  -- region 1
  refine jc_region ?_
  refine jl_y rfl (by decide) rfl (y_move rfl) ?_
  refine jl_y rfl (by decide) rfl (y_move rfl) ?_
  refine jl_y rfl (by decide) rfl (y_len_str rfl) ?_
  refine jl_y rfl (by decide) rfl (y_min rfl rfl) ?_
  refine jl_y rfl (by decide) rfl (y_substr_hi rfl rfl (by omega) (by omega)) ?_
  refine jl_as (u := .string (cutS word 300)) (congrArg Value.string (cut_eq word 300)) ?_
  refine jl_y rfl (by decide) rfl (y_assign rfl) ?_
  refine jl_nil ?_
  refine jq_then ?_
  refine jc_seq ?_
  -- region 2
  have hcw := cutS_size word 300
  refine jc_region ?_
  refine jl_m rfl (by decide) rfl (m_buildSlice (by decide) Built.nil) (fun b12 => ?_)
  refine jl_y rfl (by decide) rfl (y_assign rfl) ?_
  refine jl_nil ?_
  refine jq_then ?_
  refine jc_seq ?_
  refine jc_seq ?_
  -- region 3
  refine jc_region ?_
  refine jl_y rfl (by decide) rfl (y_assign rfl) ?_
  refine jl_nil ?_
  refine jq_then ?_
  refine jc_block ?_
  -- a loop
  refine jc_loop4 (fun (i : Nat) (ad1 : Option Addr) (cap1 : Nat) (acc : List ByteArray) => [(0, .string (cutS word 300)), (1, .slice ad ps.length c), (5, .slice ad1 acc.length cap1), (6, .int .i64 (i : Nat))]) (fun (i : Nat) (ad1 : Option Addr) (cap1 : Nat) (acc : List ByteArray) => fun w' => ((acc.length = i ∧ i ≤ 9) ∧ ∀ p ∈ acc, p.size ≤ 300) ∧ Hp w [] [.row ad1 acc.length cap1 9 1 (acc.map Value.string)] w') (fun (i : Nat) (ad1 : Option Addr) (cap1 : Nat) (acc : List ByteArray) => 9 - i) 0 (some ⟨b12, 0, none⟩) 0 [] ?_ ?_ ?_
  · exact ⟨rfl, rfl, rfl, rfl, trivial⟩
  · exact fun _ h => ⟨⟨⟨rfl, by omega⟩, by simp⟩, h⟩
  · intro i ad1 cap1 acc
    refine jc_and (fun hacc => ?_)
    have hal := hacc.1.1
    have hal2 := hacc.1.2
    refine jc_seq ?_
    refine jc_seq ?_
    -- region 4
    refine jc_region ?_
    refine jl_y rfl (by decide) rfl (y_move rfl) ?_
    refine jl_y rfl (by decide) rfl (y_move rfl) ?_
    refine jl_y rfl (by decide) rfl (y_len_slice rfl) ?_
    refine jl_y rfl (by decide) rfl (y_lss rfl rfl) ?_
    refine jl_prop (fun h16 => ?_) (fun h16 => ?_)
    · first
      | (exfalso; omega)
      | (
        have hi1 : i < ps.length := by omega
        obtain ⟨p, hp⟩ : ∃ p, ps[i]? = some p := ⟨_, List.getElem?_eq_getElem hi1⟩
        obtain ⟨bb, oo, rfl, hc⟩ := hps i p hp
        refine jl_y rfl (by decide) rfl (y_move rfl) ?_
        refine jl_y rfl (by decide) rfl (y_move rfl) ?_
        refine jl_y rfl (by decide) rfl (y_lss rfl rfl) ?_
        refine jl_prop (fun h19 => ?_) (fun h19 => ?_)
        · first
          | (exfalso; omega)
          | (
            refine jl_y rfl (by decide) rfl (y_pick_true rfl rfl) ?_
            refine jl_nil ?_
            refine jq_then ?_
            refine jc_true rfl ?_
            refine jc_skip ?_
            refine jq_then ?_
            refine jc_seq ?_
            refine jc_block ?_
            -- region 6
            refine jc_sched 13 [(0, true), (1, true), (2, true), (3, true), (4, true), (5, true), (6, true), (7, true), (8, true), (9, true), (10, true), (11, true), (12, false)] rfl (by kernel_rfl) (fun _ _ _ _ h => h) (fun _ h => h.drew) ?_
            simp only [pickO, nthO, List.drop_succ_cons, List.drop_zero]
            refine js_take rfl (by decide) rfl (y_move rfl) ?_
            refine js_take rfl (by decide) rfl (y_move rfl) ?_
            refine js_take rfl (by decide) rfl (y_move rfl) ?_
            refine js_take rfl (by decide) rfl (y_indexAddr_slice (off := oo + i) rfl rfl (by omega) (by omega) (by omega)) ?_
            refine js_take rfl (by decide) rfl (y_load_old rfl hc (by simp)) ?_
            refine js_take rfl (by decide) rfl (y_move rfl) ?_
            refine js_take rfl (by decide) rfl (y_move rfl) ?_
            refine js_take rfl (by decide) rfl (y_indexAddr_slice (off := oo + i) rfl rfl (by omega) (by omega) (by omega)) ?_
            refine js_take rfl (by decide) rfl (y_load_old rfl hc (by simp)) ?_
            refine js_take rfl (by decide) rfl (y_len_str rfl) ?_
            refine js_take rfl (by decide) rfl (y_min rfl rfl) ?_
            refine js_take rfl (by decide) rfl (y_substr_hi rfl rfl (by omega) (by omega)) ?_
            refine js_as (u := .string (cutS p 300)) (congrArg Value.string (cut_eq p 300)) ?_
            refine js_m (by intros; rename_i h; first | exact h | exact h.pop | exact h.pop.pop | exact h.pop.pop.pop | exact h.pop.pop.pop.pop | exact h.pop.pop.pop.pop.pop | exact h.pop.pop.pop.pop.pop.pop) rfl (by decide) rfl (m_buildSlice (by decide) (Built.cell rfl rfl rfl (by repeat constructor) Built.nil)) (fun b35 => ?_)
            refine js_nil ?_
            refine jl_m2 rfl (by decide) rfl (m_append rfl rfl (by first | exact del0 | exact del1 | exact del2 | exact del3 | exact del4) (by first | exact del0 | exact del1 | exact del2 | exact del3 | exact del4) rfl (by omega) (by omega)) (fun ad36 cap36 => ?_)
            refine jl_y rfl (by decide) rfl (y_assign rfl) ?_
            refine jl_nil ?_
            refine jq_block ?_
            refine jq_then ?_
            -- region 5
            refine jc_region ?_
            refine jl_y rfl (by decide) rfl (y_move rfl) ?_
            refine jl_y rfl (by decide) rfl (y_add_fits rfl rfl (by simp only [fits]; omega)) ?_
            refine jl_y rfl (by decide) rfl (y_assign rfl) ?_
            refine jl_nil ?_
            refine jq_round4 (i := i) (j := ad1) (l := cap1) (m := acc) (i + 1) ad36 cap36 (acc ++ [cutS p 300]) ?_ ?_ ?_
            · omega
            · exact ⟨rfl, rfl, lk_val rfl (by simp), lk_int rfl (by omega), trivial⟩
            · exact fun _ h => ⟨⟨⟨by simp [hal], by omega⟩, all_snoc hacc.2 (cutS_size p 300)⟩, h.cast (by simp)⟩
            )
        · first
          | (exfalso; omega)
          | (
            refine jl_y rfl (by decide) rfl (y_pick_true rfl rfl) ?_
            refine jl_nil ?_
            refine jq_then ?_
            refine jc_false rfl ?_
            refine jc_exit ?_
            refine jq_then_exit ?_
            refine jq_then_exit ?_
            refine jq_hit ?_
            refine jq_then ?_
            refine jc_seq ?_
            -- region 7
            refine jc_region ?_
            refine jl_y rfl (by decide) rfl (y_move rfl) ?_
            refine jl_y rfl (by decide) rfl (y_move rfl) ?_
            refine jl_pcall rfl (by decide) rfl (goes_func rfl) (fun w1 hw1 => pcall hw1 (tag_any _ ad1 cap1 acc w1 (by omega) (by omega) (fun p hp => Nat.le_trans (hacc.2 p hp) (by decide)) (Strs.of_own (hw1.get mem0)))) ?_
            refine jl_y rfl (by decide) rfl (y_move rfl) ?_
            refine jl_y rfl (by decide) rfl (y_move rfl) ?_
            refine jl_pcall rfl (by decide) rfl (goes_func rfl) (fun w1 hw1 => pcall hw1 (rtag_any _ ad1 cap1 acc w1 (by omega) (by omega) (fun p hp => Nat.le_trans (hacc.2 p hp) (by decide)) (Strs.of_own (hw1.get mem0)))) ?_
            refine jl_y rfl (by decide) rfl (y_seql rfl rfl) ?_
            refine jl_as (u := .bool true) (congrArg (fun b => Value.bool b) (decide_eq_true (rfl))) ?_
            refine jl_y rfl (by decide) rfl (y_move rfl) ?_
            refine jl_pcall rfl (by decide) rfl (goes_func rfl) (fun w1 hw1 => pcall hw1 (fixed_any w1)) ?_
            refine jl_y rfl (by decide) rfl (y_pick_true rfl rfl) ?_
            refine jl_y rfl (by decide) rfl (y_assign rfl) ?_
            refine jl_nil ?_
            refine jq_then ?_
            refine jc_ret ?_
            refine jq_ret1 rfl rfl ?_
            exact fun _ hw => ⟨rfl, hw.ch⟩
            )
        )
    · first
      | (exfalso; omega)
      | (
        refine jl_y rfl (by decide) rfl (y_move rfl) ?_
        refine jl_skip rfl (by decide) rfl ?_
        refine jl_skip rfl (by decide) rfl ?_
        refine jl_y rfl (by decide) rfl (y_pick_false rfl rfl) ?_
        refine jl_nil ?_
        refine jq_then ?_
        refine jc_false rfl ?_
        refine jc_exit ?_
        refine jq_then_exit ?_
        refine jq_then_exit ?_
        refine jq_hit ?_
        refine jq_then ?_
        refine jc_seq ?_
        -- region 7
        refine jc_region ?_
        refine jl_y rfl (by decide) rfl (y_move rfl) ?_
        refine jl_y rfl (by decide) rfl (y_move rfl) ?_
        refine jl_pcall rfl (by decide) rfl (goes_func rfl) (fun w1 hw1 => pcall hw1 (tag_any _ ad1 cap1 acc w1 (by omega) (by omega) (fun p hp => Nat.le_trans (hacc.2 p hp) (by decide)) (Strs.of_own (hw1.get mem0)))) ?_
        refine jl_y rfl (by decide) rfl (y_move rfl) ?_
        refine jl_y rfl (by decide) rfl (y_move rfl) ?_
        refine jl_pcall rfl (by decide) rfl (goes_func rfl) (fun w1 hw1 => pcall hw1 (rtag_any _ ad1 cap1 acc w1 (by omega) (by omega) (fun p hp => Nat.le_trans (hacc.2 p hp) (by decide)) (Strs.of_own (hw1.get mem0)))) ?_
        refine jl_y rfl (by decide) rfl (y_seql rfl rfl) ?_
        refine jl_as (u := .bool true) (congrArg (fun b => Value.bool b) (decide_eq_true (rfl))) ?_
        refine jl_y rfl (by decide) rfl (y_move rfl) ?_
        refine jl_pcall rfl (by decide) rfl (goes_func rfl) (fun w1 hw1 => pcall hw1 (fixed_any w1)) ?_
        refine jl_y rfl (by decide) rfl (y_pick_true rfl rfl) ?_
        refine jl_y rfl (by decide) rfl (y_assign rfl) ?_
        refine jl_nil ?_
        refine jq_then ?_
        refine jc_ret ?_
        refine jq_ret1 rfl rfl ?_
        exact fun _ hw => ⟨rfl, hw.ch⟩
        )

theorem shaParts_any (ad : Option Addr) (c : Nat) (ps : List ByteArray) (more : ByteArray) (w : World) (hps : Strs w ad ps) :
    Calls Try.prog 5 #[.slice ad ps.length c, .string more] w fun e w' => e = .returned (.bool true) ∧ Ch [] w w' := by
  refine calls_of (n := 101) (E := [(0, .slice ad ps.length c), (1, .string more)]) (W := Hp w [] []) Try.func5 rfl rfl (Nat.le_of_ble_eq_true rfl) rfl (Hp.nil _ _) ?_
  refine jc_seq ?_
  -- region 0
  refine jc_region ?_
  refine jl_y rfl (by decide) rfl (y_assign rfl) ?_
  refine jl_nil ?_
  refine jq_then ?_
  refine jc_seq ?_
  -- region 1
  refine jc_region ?_
  refine jl_fcall rfl (by decide) rfl (goes_func rfl) (fun w1 hw1 => new_any w1) (fun bh => ?_)
  refine jl_y rfl (by decide) rfl (y_assign rfl) ?_
  refine jl_y rfl (by decide) rfl (y_assign rfl) ?_
  refine jl_nil ?_
  refine jq_then ?_
  refine jc_seq ?_
  refine jc_seq ?_
  -- region 2
  refine jc_region ?_
  refine jl_y rfl (by decide) rfl (y_assign rfl) ?_
  refine jl_nil ?_
  refine jq_then ?_
  refine jc_block ?_
  -- a loop
  refine jc_loop2 (fun (i : Nat) (all : ByteArray) => [(0, .slice ad ps.length c), (1, .string more), (5, .pointer (some ⟨bh, 0, none⟩)), (6, .string all), (7, .int .i64 (i : Nat))]) (fun (i : Nat) (all : ByteArray) => fun w' => (i ≤ 20 ∧ all.size ≤ 200 * i) ∧ Hp w [] [.cells bh (hashV all)] w') (fun (i : Nat) (all : ByteArray) => 20 - i) 0 ⟨#[]⟩ ?_ ?_ ?_
  · exact ⟨rfl, rfl, rfl, rfl, rfl, trivial⟩
  · exact fun _ h => ⟨⟨by omega, by rw [empty_size]; omega⟩, h⟩
  · intro i all
    refine jc_and (fun hall => ?_)
    refine jc_seq ?_
    refine jc_seq ?_
    -- region 3
    refine jc_region ?_
    refine jl_y rfl (by decide) rfl (y_move rfl) ?_
    refine jl_y rfl (by decide) rfl (y_move rfl) ?_
    refine jl_y rfl (by decide) rfl (y_len_slice rfl) ?_
    refine jl_y rfl (by decide) rfl (y_lss rfl rfl) ?_
    refine jl_prop (fun h15 => ?_) (fun h15 => ?_)
    · first
      | (exfalso; omega)
      | (
        have hi1 : i < ps.length := by omega
        obtain ⟨p, hp⟩ : ∃ p, ps[i]? = some p := ⟨_, List.getElem?_eq_getElem hi1⟩
        obtain ⟨bb, oo, rfl, hc⟩ := hps i p hp
        refine jl_y rfl (by decide) rfl (y_move rfl) ?_
        refine jl_y rfl (by decide) rfl (y_move rfl) ?_
        refine jl_y rfl (by decide) rfl (y_lss rfl rfl) ?_
        refine jl_prop (fun h18 => ?_) (fun h18 => ?_)
        · first
          | (exfalso; omega)
          | (
            refine jl_y rfl (by decide) rfl (y_pick_true rfl rfl) ?_
            refine jl_nil ?_
            refine jq_then ?_
            refine jc_true rfl ?_
            refine jc_skip ?_
            refine jq_then ?_
            refine jc_seq ?_
            refine jc_block ?_
            refine jc_seq ?_
            refine jc_seq ?_
            -- region 5
            refine jc_region ?_
            refine jl_y rfl (by decide) rfl (y_move rfl) ?_
            refine jl_y rfl (by decide) rfl (y_eql_nil rfl rfl) ?_
            refine jl_as (u := .bool false) rfl ?_
            refine jl_nil ?_
            refine jq_then ?_
            refine jc_false rfl ?_
            refine jc_skip ?_
            refine jq_then ?_
            refine jc_seq ?_
            -- region 7
            refine jc_draw (by kernel_rfl) (fun _ h => h.drew) ?_
            refine ju_y rfl (by decide) rfl (y_move rfl) ?_
            refine ju_y rfl (by decide) rfl (y_move rfl) ?_
            refine ju_y rfl (by decide) rfl (y_indexAddr_slice (off := oo + i) rfl rfl (by omega) (by omega) (by omega)) ?_
            refine ju_y rfl (by decide) rfl (y_load_old rfl hc (by simp)) ?_
            refine ju_y rfl (by decide) rfl (y_move rfl) ?_
            refine ju_y rfl (by decide) rfl (y_move rfl) ?_
            refine ju_y rfl (by decide) rfl (y_indexAddr_slice (off := oo + i) rfl rfl (by omega) (by omega) (by omega)) ?_
            refine ju_y rfl (by decide) rfl (y_load_old rfl hc (by simp)) ?_
            refine ju_y rfl (by decide) rfl (y_len_str rfl) ?_
            refine ju_y rfl (by decide) rfl (y_min rfl rfl) ?_
            refine ju_y rfl (by decide) rfl (y_substr_hi rfl rfl (by omega) (by omega)) ?_
            refine ju_as (u := .string (cutS p 200)) (congrArg Value.string (cut_eq p 200)) ?_
            refine ju_y rfl (by decide) rfl (y_assign rfl) ?_
            refine ju_nil ?_
            refine jq_then ?_
            refine jc_seq ?_
            -- region 8
            have hcp := cutS_size p 200
            refine jc_region ?_
            refine jl_y rfl (by decide) rfl (y_move rfl) ?_
            refine jl_y rfl (by decide) rfl (y_move rfl) ?_
            refine jl_ucall rfl (by decide) rfl (goes_func rfl) (by rfl) (fun w1 hw1 => write_any _ all (cutS p 200) w1 (by omega) (by omega) hw1) (by first | exact rep0 | exact rep1 | exact rep2 | exact rep3 | exact rep4) ?_
            refine jl_nil ?_
            refine jq_then ?_
            refine jc_seq ?_
            -- region 9
            refine jc_region ?_
            refine jl_y rfl (by decide) rfl (y_move rfl) ?_
            refine jl_y rfl (by decide) rfl (y_move rfl) ?_
            refine jl_y rfl (by decide) rfl (y_concat rfl rfl (by first | omega | (simp only [ByteArray.size_append]; omega))) ?_
            refine jl_y rfl (by decide) rfl (y_assign rfl) ?_
            refine jl_nil ?_
            refine jq_then ?_
            refine jc_seq ?_
            -- region 10
            refine jc_region ?_
            refine jl_y rfl (by decide) rfl (y_move rfl) ?_
            refine jl_pcall rfl (by decide) rfl (goes_func rfl) (fun w1 hw1 => pcall hw1 (hsum_any _ (all ++ cutS p 200) w1 (by rw [ByteArray.size_append]; omega) (old_left (hw1.get mem0)) (old_n (hw1.get mem0)) (old_st (hw1.get mem0)))) ?_
            refine jl_y rfl (by decide) rfl (y_move rfl) ?_
            refine jl_pcall rfl (by decide) rfl (goes_func rfl) (fun w1 hw1 => pcall hw1 (sum_any _ w1 (by rw [ByteArray.size_append]; omega))) ?_
            refine jl_y rfl (by decide) rfl (y_sneq rfl rfl) ?_
            refine jl_as (u := .bool false) (congrArg (fun b => Value.bool (!b)) (decide_eq_true (rfl))) ?_
            refine jl_y rfl (by decide) rfl (y_move rfl) ?_
            refine jl_y rfl (by decide) rfl (y_move rfl) ?_
            refine jl_pcall rfl (by decide) rfl (goes_func rfl) (fun w1 hw1 => pcall hw1 (len_any _ (all ++ cutS p 200) w1 (old_n (hw1.get mem0)))) ?_
            refine jl_y rfl (by decide) rfl (y_move rfl) ?_
            refine jl_y rfl (by decide) rfl (y_len_str rfl) ?_
            refine jl_y rfl (by decide) rfl (y_neq rfl rfl) ?_
            refine jl_prop (fun h51 => ?_) (fun h51 => ?_)
            · exact absurd (by rw [ByteArray.size_append]) h51
            · first
              | (exfalso; omega)
              | (
                refine jl_y rfl (by decide) rfl (y_pick_false rfl rfl) ?_
                refine jl_nil ?_
                refine jq_then ?_
                refine jc_false rfl ?_
                refine jc_skip ?_
                refine jq_block ?_
                refine jq_then ?_
                -- region 4
                refine jc_region ?_
                refine jl_y rfl (by decide) rfl (y_move rfl) ?_
                refine jl_y rfl (by decide) rfl (y_add_fits rfl rfl (by simp only [fits]; omega)) ?_
                refine jl_y rfl (by decide) rfl (y_assign rfl) ?_
                refine jl_nil ?_
                refine jq_round2 (i := i) (j := all) (i + 1) (all ++ cutS p 200) ?_ ?_ ?_
                · omega
                · exact ⟨rfl, rfl, rfl, rfl, lk_int rfl (by omega), trivial⟩
                · exact fun _ h => ⟨⟨by omega, by rw [ByteArray.size_append]; omega⟩, h⟩
                )
            )
        · first
          | (exfalso; omega)
          | (
            refine jl_y rfl (by decide) rfl (y_pick_true rfl rfl) ?_
            refine jl_nil ?_
            refine jq_then ?_
            refine jc_false rfl ?_
            refine jc_exit ?_
            refine jq_then_exit ?_
            refine jq_then_exit ?_
            refine jq_hit ?_
            refine jq_then ?_
            refine jc_seq ?_
            refine jc_seq ?_
            -- region 12
            refine jc_region ?_
            refine jl_y rfl (by decide) rfl (y_move rfl) ?_
            refine jl_y rfl (by decide) rfl (y_eql_nil rfl rfl) ?_
            refine jl_as (u := .bool false) rfl ?_
            refine jl_nil ?_
            refine jq_then ?_
            refine jc_false rfl ?_
            refine jc_skip ?_
            refine jq_then ?_
            refine jc_seq ?_
            -- region 14
            refine jc_region ?_
            refine jl_y rfl (by decide) rfl (y_move rfl) ?_
            refine jl_fcall rfl (by decide) rfl (goes_func rfl) (fun w1 hw1 => copy_any _ all w1 (old_left (hw1.get mem0)) (old_n (hw1.get mem0)) (old_st (hw1.get mem0))) (fun bc => ?_)
            refine jl_y rfl (by decide) rfl (y_assign rfl) ?_
            refine jl_nil ?_
            refine jq_then ?_
            refine jc_seq ?_
            refine jc_seq ?_
            -- region 15
            refine jc_region ?_
            refine jl_y rfl (by decide) rfl (y_move rfl) ?_
            refine jl_y rfl (by decide) rfl (y_eql_nil rfl rfl) ?_
            refine jl_as (u := .bool false) rfl ?_
            refine jl_nil ?_
            refine jq_then ?_
            refine jc_false rfl ?_
            refine jc_skip ?_
            refine jq_then ?_
            refine jc_seq ?_
            -- region 17
            refine jc_region ?_
            refine jl_y rfl (by decide) rfl (y_move rfl) ?_
            refine jl_y rfl (by decide) rfl (y_move rfl) ?_
            refine jl_y rfl (by decide) rfl (y_len_str rfl) ?_
            refine jl_y rfl (by decide) rfl (y_min rfl rfl) ?_
            refine jl_y rfl (by decide) rfl (y_substr_hi rfl rfl (by omega) (by omega)) ?_
            refine jl_as (u := .string (cutS more 200)) (congrArg Value.string (cut_eq more 200)) ?_
            refine jl_y rfl (by decide) rfl (y_assign rfl) ?_
            refine jl_nil ?_
            refine jq_then ?_
            refine jc_seq ?_
            -- region 18
            have hcm := cutS_size more 200
            refine jc_region ?_
            refine jl_y rfl (by decide) rfl (y_move rfl) ?_
            refine jl_y rfl (by decide) rfl (y_move rfl) ?_
            refine jl_ucall rfl (by decide) rfl (goes_func rfl) (by rfl) (fun w1 hw1 => write_any _ all (cutS more 200) w1 (by omega) (by omega) hw1) (by first | exact rep0 | exact rep1 | exact rep2 | exact rep3 | exact rep4) ?_
            refine jl_nil ?_
            refine jq_then ?_
            refine jc_seq ?_
            -- region 19
            refine jc_region ?_
            refine jl_y rfl (by decide) rfl (y_move rfl) ?_
            refine jl_pcall rfl (by decide) rfl (goes_func rfl) (fun w1 hw1 => pcall hw1 (hsum_any _ (all ++ cutS more 200) w1 (by rw [ByteArray.size_append]; omega) (old_left (hw1.get mem0)) (old_n (hw1.get mem0)) (old_st (hw1.get mem0)))) ?_
            refine jl_y rfl (by decide) rfl (y_move rfl) ?_
            refine jl_y rfl (by decide) rfl (y_move rfl) ?_
            refine jl_y rfl (by decide) rfl (y_concat rfl rfl (by first | omega | (simp only [ByteArray.size_append]; omega))) ?_
            refine jl_pcall rfl (by decide) rfl (goes_func rfl) (fun w1 hw1 => pcall hw1 (sum_any _ w1 (by rw [ByteArray.size_append]; omega))) ?_
            refine jl_y rfl (by decide) rfl (y_seql rfl rfl) ?_
            refine jl_as (u := .bool true) (congrArg (fun b => Value.bool b) (decide_eq_true (rfl))) ?_
            refine jl_y rfl (by decide) rfl (y_move rfl) ?_
            refine jl_y rfl (by decide) rfl (y_move rfl) ?_
            refine jl_pcall rfl (by decide) rfl (goes_func rfl) (fun w1 hw1 => pcall hw1 (hsum_any _ (all) w1 (by omega) (old_left (hw1.get mem1)) (old_n (hw1.get mem1)) (old_st (hw1.get mem1)))) ?_
            refine jl_y rfl (by decide) rfl (y_move rfl) ?_
            refine jl_pcall rfl (by decide) rfl (goes_func rfl) (fun w1 hw1 => pcall hw1 (sum_any _ w1 (by omega))) ?_
            refine jl_y rfl (by decide) rfl (y_seql rfl rfl) ?_
            refine jl_as (u := .bool true) (congrArg (fun b => Value.bool b) (decide_eq_true (rfl))) ?_
            refine jl_y rfl (by decide) rfl (y_pick_true rfl rfl) ?_
            refine jl_y rfl (by decide) rfl (y_move rfl) ?_
            refine jl_y rfl (by decide) rfl (y_move rfl) ?_
            refine jl_pcall rfl (by decide) rfl (goes_func rfl) (fun w1 hw1 => pcall hw1 (len_any _ all w1 (old_n (hw1.get mem1)))) ?_
            refine jl_y rfl (by decide) rfl (y_move rfl) ?_
            refine jl_y rfl (by decide) rfl (y_len_str rfl) ?_
            refine jl_y rfl (by decide) rfl (y_eql rfl rfl) ?_
            refine jl_prop (fun h86 => ?_) (fun h86 => ?_)
            · first
              | (exfalso; omega)
              | (
                refine jl_y rfl (by decide) rfl (y_pick_true rfl rfl) ?_
                refine jl_y rfl (by decide) rfl (y_move rfl) ?_
                refine jl_y rfl (by decide) rfl (y_move rfl) ?_
                refine jl_pcall rfl (by decide) rfl (goes_func rfl) (fun w1 hw1 => pcall hw1 (len_any _ (all ++ cutS more 200) w1 (old_n (hw1.get mem0)))) ?_
                refine jl_y rfl (by decide) rfl (y_move rfl) ?_
                refine jl_y rfl (by decide) rfl (y_len_str rfl) ?_
                refine jl_y rfl (by decide) rfl (y_move rfl) ?_
                refine jl_y rfl (by decide) rfl (y_len_str rfl) ?_
                refine jl_y rfl (by decide) rfl (y_add_fits rfl rfl (by simp only [fits]; omega)) ?_
                refine jl_y rfl (by decide) rfl (y_eql rfl rfl) ?_
                refine jl_prop (fun h96 => ?_) (fun h96 => ?_)
                · first
                  | (exfalso; omega)
                  | (
                    refine jl_y rfl (by decide) rfl (y_pick_true rfl rfl) ?_
                    refine jl_y rfl (by decide) rfl (y_move rfl) ?_
                    refine jl_pcall rfl (by decide) rfl (goes_func rfl) (fun w1 hw1 => pcall hw1 (fixed_any w1)) ?_
                    refine jl_y rfl (by decide) rfl (y_pick_true rfl rfl) ?_
                    refine jl_y rfl (by decide) rfl (y_assign rfl) ?_
                    refine jl_nil ?_
                    refine jq_then ?_
                    refine jc_ret ?_
                    refine jq_ret1 rfl rfl ?_
                    exact fun _ hw => ⟨rfl, hw.ch⟩
                    )
                · exact absurd (by rw [ByteArray.size_append]; rfl) h96
                )
            · exact absurd rfl h86
            )
        )
    · first
      | (exfalso; omega)
      | (
        refine jl_y rfl (by decide) rfl (y_move rfl) ?_
        refine jl_skip rfl (by decide) rfl ?_
        refine jl_skip rfl (by decide) rfl ?_
        refine jl_y rfl (by decide) rfl (y_pick_false rfl rfl) ?_
        refine jl_nil ?_
        refine jq_then ?_
        refine jc_false rfl ?_
        refine jc_exit ?_
        refine jq_then_exit ?_
        refine jq_then_exit ?_
        refine jq_hit ?_
        refine jq_then ?_
        refine jc_seq ?_
        refine jc_seq ?_
        -- region 12
        refine jc_region ?_
        refine jl_y rfl (by decide) rfl (y_move rfl) ?_
        refine jl_y rfl (by decide) rfl (y_eql_nil rfl rfl) ?_
        refine jl_as (u := .bool false) rfl ?_
        refine jl_nil ?_
        refine jq_then ?_
        refine jc_false rfl ?_
        refine jc_skip ?_
        refine jq_then ?_
        refine jc_seq ?_
        -- region 14
        refine jc_region ?_
        refine jl_y rfl (by decide) rfl (y_move rfl) ?_
        refine jl_fcall rfl (by decide) rfl (goes_func rfl) (fun w1 hw1 => copy_any _ all w1 (old_left (hw1.get mem0)) (old_n (hw1.get mem0)) (old_st (hw1.get mem0))) (fun bc => ?_)
        refine jl_y rfl (by decide) rfl (y_assign rfl) ?_
        refine jl_nil ?_
        refine jq_then ?_
        refine jc_seq ?_
        refine jc_seq ?_
        -- region 15
        refine jc_region ?_
        refine jl_y rfl (by decide) rfl (y_move rfl) ?_
        refine jl_y rfl (by decide) rfl (y_eql_nil rfl rfl) ?_
        refine jl_as (u := .bool false) rfl ?_
        refine jl_nil ?_
        refine jq_then ?_
        refine jc_false rfl ?_
        refine jc_skip ?_
        refine jq_then ?_
        refine jc_seq ?_
        -- region 17
        refine jc_region ?_
        refine jl_y rfl (by decide) rfl (y_move rfl) ?_
        refine jl_y rfl (by decide) rfl (y_move rfl) ?_
        refine jl_y rfl (by decide) rfl (y_len_str rfl) ?_
        refine jl_y rfl (by decide) rfl (y_min rfl rfl) ?_
        refine jl_y rfl (by decide) rfl (y_substr_hi rfl rfl (by omega) (by omega)) ?_
        refine jl_as (u := .string (cutS more 200)) (congrArg Value.string (cut_eq more 200)) ?_
        refine jl_y rfl (by decide) rfl (y_assign rfl) ?_
        refine jl_nil ?_
        refine jq_then ?_
        refine jc_seq ?_
        -- region 18
        have hcm := cutS_size more 200
        refine jc_region ?_
        refine jl_y rfl (by decide) rfl (y_move rfl) ?_
        refine jl_y rfl (by decide) rfl (y_move rfl) ?_
        refine jl_ucall rfl (by decide) rfl (goes_func rfl) (by rfl) (fun w1 hw1 => write_any _ all (cutS more 200) w1 (by omega) (by omega) hw1) (by first | exact rep0 | exact rep1 | exact rep2 | exact rep3 | exact rep4) ?_
        refine jl_nil ?_
        refine jq_then ?_
        refine jc_seq ?_
        -- region 19
        refine jc_region ?_
        refine jl_y rfl (by decide) rfl (y_move rfl) ?_
        refine jl_pcall rfl (by decide) rfl (goes_func rfl) (fun w1 hw1 => pcall hw1 (hsum_any _ (all ++ cutS more 200) w1 (by rw [ByteArray.size_append]; omega) (old_left (hw1.get mem0)) (old_n (hw1.get mem0)) (old_st (hw1.get mem0)))) ?_
        refine jl_y rfl (by decide) rfl (y_move rfl) ?_
        refine jl_y rfl (by decide) rfl (y_move rfl) ?_
        refine jl_y rfl (by decide) rfl (y_concat rfl rfl (by first | omega | (simp only [ByteArray.size_append]; omega))) ?_
        refine jl_pcall rfl (by decide) rfl (goes_func rfl) (fun w1 hw1 => pcall hw1 (sum_any _ w1 (by rw [ByteArray.size_append]; omega))) ?_
        refine jl_y rfl (by decide) rfl (y_seql rfl rfl) ?_
        refine jl_as (u := .bool true) (congrArg (fun b => Value.bool b) (decide_eq_true (rfl))) ?_
        refine jl_y rfl (by decide) rfl (y_move rfl) ?_
        refine jl_y rfl (by decide) rfl (y_move rfl) ?_
        refine jl_pcall rfl (by decide) rfl (goes_func rfl) (fun w1 hw1 => pcall hw1 (hsum_any _ (all) w1 (by omega) (old_left (hw1.get mem1)) (old_n (hw1.get mem1)) (old_st (hw1.get mem1)))) ?_
        refine jl_y rfl (by decide) rfl (y_move rfl) ?_
        refine jl_pcall rfl (by decide) rfl (goes_func rfl) (fun w1 hw1 => pcall hw1 (sum_any _ w1 (by omega))) ?_
        refine jl_y rfl (by decide) rfl (y_seql rfl rfl) ?_
        refine jl_as (u := .bool true) (congrArg (fun b => Value.bool b) (decide_eq_true (rfl))) ?_
        refine jl_y rfl (by decide) rfl (y_pick_true rfl rfl) ?_
        refine jl_y rfl (by decide) rfl (y_move rfl) ?_
        refine jl_y rfl (by decide) rfl (y_move rfl) ?_
        refine jl_pcall rfl (by decide) rfl (goes_func rfl) (fun w1 hw1 => pcall hw1 (len_any _ all w1 (old_n (hw1.get mem1)))) ?_
        refine jl_y rfl (by decide) rfl (y_move rfl) ?_
        refine jl_y rfl (by decide) rfl (y_len_str rfl) ?_
        refine jl_y rfl (by decide) rfl (y_eql rfl rfl) ?_
        refine jl_prop (fun h86 => ?_) (fun h86 => ?_)
        · first
          | (exfalso; omega)
          | (
            refine jl_y rfl (by decide) rfl (y_pick_true rfl rfl) ?_
            refine jl_y rfl (by decide) rfl (y_move rfl) ?_
            refine jl_y rfl (by decide) rfl (y_move rfl) ?_
            refine jl_pcall rfl (by decide) rfl (goes_func rfl) (fun w1 hw1 => pcall hw1 (len_any _ (all ++ cutS more 200) w1 (old_n (hw1.get mem0)))) ?_
            refine jl_y rfl (by decide) rfl (y_move rfl) ?_
            refine jl_y rfl (by decide) rfl (y_len_str rfl) ?_
            refine jl_y rfl (by decide) rfl (y_move rfl) ?_
            refine jl_y rfl (by decide) rfl (y_len_str rfl) ?_
            refine jl_y rfl (by decide) rfl (y_add_fits rfl rfl (by simp only [fits]; omega)) ?_
            refine jl_y rfl (by decide) rfl (y_eql rfl rfl) ?_
            refine jl_prop (fun h96 => ?_) (fun h96 => ?_)
            · first
              | (exfalso; omega)
              | (
                refine jl_y rfl (by decide) rfl (y_pick_true rfl rfl) ?_
                refine jl_y rfl (by decide) rfl (y_move rfl) ?_
                refine jl_pcall rfl (by decide) rfl (goes_func rfl) (fun w1 hw1 => pcall hw1 (fixed_any w1)) ?_
                refine jl_y rfl (by decide) rfl (y_pick_true rfl rfl) ?_
                refine jl_y rfl (by decide) rfl (y_assign rfl) ?_
                refine jl_nil ?_
                refine jq_then ?_
                refine jc_ret ?_
                refine jq_ret1 rfl rfl ?_
                exact fun _ hw => ⟨rfl, hw.ch⟩
                )
            · exact absurd (by rw [ByteArray.size_append]; rfl) h96
            )
        · exact absurd rfl h86
        )

theorem shaLong_any (c n : Int) (w : World) (hc : fits .u8 c) (hn : fits .u8 n) :
    Calls Try.prog 6 #[.int .u8 c, .int .u8 n] w fun e w' => e = .returned (.bool true) ∧ Ch [] w w' := by
  simp only [fits] at hc hn
  refine calls_of (n := 47) (E := [(0, .int .u8 c), (1, .int .u8 n)]) (W := Hp w [] []) Try.func6 rfl rfl (Nat.le_of_ble_eq_true rfl) rfl (Hp.nil _ _) ?_
  refine jc_seq ?_
  -- region 0
  refine jc_region ?_
  refine jl_y rfl (by decide) rfl (y_assign rfl) ?_
  refine jl_nil ?_
  refine jq_then ?_
  refine jc_seq ?_
  -- region 1
  refine jc_region ?_
  refine jl_y rfl (by decide) rfl (y_assign rfl) ?_
  refine jl_nil ?_
  refine jq_then ?_
  refine jc_seq ?_
  refine jc_seq ?_
  -- region 2
  refine jc_region ?_
  refine jl_y rfl (by decide) rfl (y_assign rfl) ?_
  refine jl_nil ?_
  refine jq_then ?_
  refine jc_block ?_
  -- a loop
  refine jc_loop2 (fun (i : Nat) (s : ByteArray) => [(0, .int .u8 c), (1, .int .u8 n), (5, .string s), (6, .int .i64 (i : Nat))]) (fun (i : Nat) (s : ByteArray) => fun w' => (i ≤ 200 ∧ s.size = i) ∧ Hp w [] [] w') (fun (i : Nat) (s : ByteArray) => 200 - i) 0 ⟨#[]⟩ ?_ ?_ ?_
  · exact ⟨rfl, rfl, rfl, rfl, trivial⟩
  · exact fun _ h => ⟨⟨by omega, rfl⟩, h⟩
  · intro i s
    refine jc_and (fun hs => ?_)
    refine jc_seq ?_
    refine jc_seq ?_
    -- region 3
    refine jc_region ?_
    refine jl_y rfl (by decide) rfl (y_move rfl) ?_
    refine jl_y rfl (by decide) rfl (y_move rfl) ?_
    first | refine jl_y rfl (by decide) rfl (y_conv_fits rfl (by simp only [fits]; omega)) ?_
    refine jl_y rfl (by decide) rfl (y_rem rfl rfl (by omega) (by omega)) ?_
    refine jl_y rfl (by decide) rfl (y_lss rfl rfl) ?_
    refine jl_prop (fun h12 => ?_) (fun h12 => ?_)
    · first
      | (exfalso; omega)
      | (
        refine jl_nil ?_
        refine jq_then ?_
        refine jc_true rfl ?_
        refine jc_skip ?_
        refine jq_then ?_
        refine jc_seq ?_
        refine jc_block ?_
        -- region 5
        refine jc_region ?_
        refine jl_y rfl (by decide) rfl (y_move rfl) ?_
        refine jl_y rfl (by decide) rfl (y_move rfl) ?_
        refine jl_m rfl (by decide) rfl (m_buildSlice (by decide) (Built.cell rfl rfl rfl (by repeat constructor) Built.nil)) (fun b17 => ?_)
        refine jl_y rfl (by decide) rfl (y_str_own rfl (by first | exact mem0 | exact mem1 | exact mem2 | exact mem3 | exact mem4 | exact mem5) (by repeat constructor)) ?_
        refine jl_y rfl (by decide) rfl (y_concat rfl rfl (by rw [strOfNums_size]; simp only [List.length_cons, List.length_nil]; omega)) ?_
        refine jl_y rfl (by decide) rfl (y_assign rfl) ?_
        refine jl_nil ?_
        refine jq_block ?_
        refine jq_then ?_
        -- region 4
        refine jc_region ?_
        refine jl_y rfl (by decide) rfl (y_move rfl) ?_
        refine jl_y rfl (by decide) rfl (y_add_fits rfl rfl (by simp only [fits]; omega)) ?_
        refine jl_y rfl (by decide) rfl (y_assign rfl) ?_
        refine jl_nil ?_
        refine jq_round2 (i := i) (j := s) (i + 1) (s ++ strOfNums [c]) ?_ ?_ ?_
        · omega
        · exact ⟨rfl, rfl, rfl, lk_int rfl (by omega), trivial⟩
        · exact fun _ h => ⟨⟨by omega, by rw [ByteArray.size_append, strOfNums_size]; simp only [List.length_cons, List.length_nil]; omega⟩, h.part .nil⟩
        )
    · first
      | (exfalso; omega)
      | (
        refine jl_nil ?_
        refine jq_then ?_
        refine jc_false rfl ?_
        refine jc_exit ?_
        refine jq_then_exit ?_
        refine jq_then_exit ?_
        refine jq_hit ?_
        refine jq_then ?_
        refine jc_seq ?_
        -- region 6
        refine jc_region ?_
        refine jl_y rfl (by decide) rfl (y_move rfl) ?_
        refine jl_pcall rfl (by decide) rfl (goes_func rfl) (fun w1 hw1 => pcall hw1 (sum_any _ w1 (by omega))) ?_
        refine jl_y rfl (by decide) rfl (y_assign rfl) ?_
        refine jl_nil ?_
        refine jq_then ?_
        refine jc_seq ?_
        -- region 7
        refine jc_draw (by kernel_rfl) (fun _ h => h.drew) ?_
        refine ju_y rfl (by decide) rfl (y_move rfl) ?_
        refine ju_y rfl (by decide) rfl (y_len_str rfl) ?_
        refine ju_y rfl (by decide) rfl (y_eql rfl rfl) ?_
        refine ju_prop (fun h24 => ?_) (fun h24 => ?_)
        · first
          | (exfalso; omega)
          | (
            refine ju_y rfl (by decide) rfl (y_move rfl) ?_
            refine ju_y rfl (by decide) rfl (y_move rfl) ?_
            refine ju_y rfl (by decide) rfl (y_move rfl) ?_
            refine ju_call rfl (by decide) rfl (goes_func rfl) (fun w1 hw1 => pcall hw1 (rsum_any _ w1 (by omega))) ?_
            refine ju_y rfl (by decide) rfl (y_seql rfl rfl) ?_
            refine ju_as (u := .bool true) (congrArg (fun b => Value.bool b) (decide_eq_true (rfl))) ?_
            refine ju_y rfl (by decide) rfl (y_pick_true rfl rfl) ?_
            refine ju_y rfl (by decide) rfl (y_move rfl) ?_
            refine ju_y rfl (by decide) rfl (y_move rfl) ?_
            refine ju_call rfl (by decide) rfl (goes_func rfl) (fun w1 hw1 => pcall hw1 (hex_any (sumS _) w1 (by rw [sumS_size]; decide))) ?_
            refine ju_y rfl (by decide) rfl (y_len_str rfl) ?_
            refine ju_y rfl (by decide) rfl (y_eql rfl rfl) ?_
            refine ju_prop (fun h35 => ?_) (fun h35 => ?_)
            · first
              | (exfalso; omega)
              | (
                refine ju_y rfl (by decide) rfl (y_pick_true rfl rfl) ?_
                refine ju_y rfl (by decide) rfl (y_move rfl) ?_
                refine ju_y rfl (by decide) rfl (y_move rfl) ?_
                refine ju_call rfl (by decide) rfl (goes_func rfl) (fun w1 hw1 => pcall hw1 (short_any _ w1 (by omega))) ?_
                refine ju_y rfl (by decide) rfl (y_move rfl) ?_
                refine ju_y rfl (by decide) rfl (y_substr_hi rfl rfl (by omega) (by rw [sumS_size]; decide)) ?_
                refine ju_y rfl (by decide) rfl (y_seql rfl rfl) ?_
                refine ju_as (u := .bool true) (congrArg (fun b => Value.bool b) (decide_eq_true (rfl))) ?_
                refine ju_y rfl (by decide) rfl (y_pick_true rfl rfl) ?_
                refine ju_y rfl (by decide) rfl (y_move rfl) ?_
                refine ju_call rfl (by decide) rfl (goes_func rfl) (fun w1 hw1 => pcall hw1 (fixed_any w1)) ?_
                refine ju_y rfl (by decide) rfl (y_pick_true rfl rfl) ?_
                refine ju_y rfl (by decide) rfl (y_assign rfl) ?_
                refine ju_nil ?_
                refine jq_then ?_
                refine jc_ret ?_
                refine jq_ret1 rfl rfl ?_
                exact fun _ hw => ⟨rfl, hw.ch⟩
                )
            · exact absurd (by rw [hexS_size, sumS_size]; rfl) h35
            )
        · exact absurd (by rw [sumS_size]; rfl) h24
        )

theorem shaHex_any (s : ByteArray) (w : World) :
    Calls Try.prog 7 #[.string s] w fun e w' => e = .returned (.bool true) ∧ Ch [] w w' := by
  refine calls_of (n := 43) (E := [(0, .string s)]) (W := Hp w [] []) Try.func7 rfl rfl (Nat.le_of_ble_eq_true rfl) rfl (Hp.nil _ _) ?_
  refine jc_seq ?_
  -- region 0
  refine jc_region ?_
  refine jl_y rfl (by decide) rfl (y_assign rfl) ?_
  refine jl_nil ?_
  refine jq_then ?_
  refine jc_seq ?_
  -- region 1
  refine jc_region ?_
  refine jl_y rfl (by decide) rfl (y_move rfl) ?_
  refine jl_y rfl (by decide) rfl (y_move rfl) ?_
  refine jl_y rfl (by decide) rfl (y_len_str rfl) ?_
  refine jl_y rfl (by decide) rfl (y_min rfl rfl) ?_
  refine jl_y rfl (by decide) rfl (y_substr_hi rfl rfl (by omega) (by omega)) ?_
  refine jl_as (u := .string (cutS s 300)) (congrArg Value.string (cut_eq s 300)) ?_
  refine jl_y rfl (by decide) rfl (y_assign rfl) ?_
  refine jl_nil ?_
  refine jq_then ?_
  refine jc_seq ?_
  -- region 2
  have hcs := cutS_size s 300
  have hhs := hexS_size (cutS s 300)
  refine jc_region ?_
  refine jl_y rfl (by decide) rfl (y_move rfl) ?_
  refine jl_pcall rfl (by decide) rfl (goes_func rfl) (fun w1 hw1 => pcall hw1 (hex_any _ w1 (by omega))) ?_
  refine jl_y rfl (by decide) rfl (y_assign rfl) ?_
  refine jl_nil ?_
  refine jq_then ?_
  refine jc_seq ?_
  refine jc_seq ?_
  -- region 3
  refine jc_region ?_
  refine jl_y rfl (by decide) rfl (y_move rfl) ?_
  refine jl_y rfl (by decide) rfl (y_len_str rfl) ?_
  refine jl_y rfl (by decide) rfl (y_move rfl) ?_
  refine jl_y rfl (by decide) rfl (y_len_str rfl) ?_
  refine jl_y rfl (by decide) rfl (y_mul_fits rfl rfl (by simp only [fits]; omega)) ?_
  refine jl_y rfl (by decide) rfl (y_neq rfl rfl) ?_
  refine jl_prop (fun h17 => ?_) (fun h17 => ?_)
  · exfalso; omega
  · first
    | (exfalso; omega)
    | (
      refine jl_nil ?_
      refine jq_then ?_
      refine jc_false rfl ?_
      refine jc_skip ?_
      refine jq_then ?_
      refine jc_seq ?_
      refine jc_seq ?_
      -- region 5
      refine jc_region ?_
      refine jl_y rfl (by decide) rfl (y_assign rfl) ?_
      refine jl_nil ?_
      refine jq_then ?_
      refine jc_block ?_
      -- a loop
      refine jc_loop (fun (i : Nat) => [(0, .string (cutS s 300)), (3, .string (hexS (cutS s 300))), (4, .int .i64 (i : Nat))]) (fun (i : Nat) => fun w' => i ≤ 300 ∧ Hp w [] [] w') (fun (i : Nat) => 300 - i) 0 ?_ ?_ ?_
      · exact ⟨rfl, rfl, rfl, trivial⟩
      · exact fun _ h => ⟨by omega, h⟩
      · intro i
        refine jc_and (fun hi => ?_)
        refine jc_seq ?_
        refine jc_seq ?_
        -- region 6
        refine jc_region ?_
        refine jl_y rfl (by decide) rfl (y_move rfl) ?_
        refine jl_y rfl (by decide) rfl (y_move rfl) ?_
        refine jl_y rfl (by decide) rfl (y_len_str rfl) ?_
        refine jl_y rfl (by decide) rfl (y_lss rfl rfl) ?_
        refine jl_prop (fun h21 => ?_) (fun h21 => ?_)
        · first
          | (exfalso; omega)
          | (
            have hci := ints_getD_range (cutS s 300) i
            have hxi := hexL_get (ints (cutS s 300)) i (by rw [ints_length]; omega)
            refine jl_nil ?_
            refine jq_then ?_
            refine jc_true rfl ?_
            refine jc_skip ?_
            refine jq_then ?_
            refine jc_seq ?_
            refine jc_block ?_
            refine jc_seq ?_
            -- region 8
            refine jc_draw (by kernel_rfl) (fun _ h => h.drew) ?_
            refine ju_y rfl (by decide) rfl (y_move rfl) ?_
            refine ju_y rfl (by decide) rfl (y_move rfl) ?_
            refine ju_y rfl (by decide) rfl (y_mul_fits rfl rfl (by simp only [fits]; omega)) ?_
            refine ju_y rfl (by decide) rfl (y_at_str rfl rfl (by omega) (by omega)) ?_
            refine ju_as (u := .int .u8 (hexD ((ints (cutS s 300)).getD i 0 / 16))) (by have e : (2 * (i : Int)).toNat = 2 * i := (by omega); rw [e, bAt_ints, ints_hexS, hxi.1]) ?_
            refine ju_call rfl (by decide) rfl (goes_func rfl) (fun w1 hw1 => pcall hw1 (digit_any _ w1 (hexD_range _ (by omega) (by omega)).1 (hexD_range _ (by omega) (by omega)).2)) ?_
            refine ju_as (congrArg (Value.int .i64) (digitF_hexD _ (by omega) (by omega))) ?_
            refine ju_y rfl (by decide) rfl (y_mul_fits rfl rfl (by simp only [fits]; omega)) ?_
            refine ju_y rfl (by decide) rfl (y_move rfl) ?_
            refine ju_y rfl (by decide) rfl (y_move rfl) ?_
            refine ju_y rfl (by decide) rfl (y_mul_fits rfl rfl (by simp only [fits]; omega)) ?_
            refine ju_y rfl (by decide) rfl (y_add_fits rfl rfl (by simp only [fits]; omega)) ?_
            refine ju_y rfl (by decide) rfl (y_at_str rfl rfl (by omega) (by omega)) ?_
            refine ju_as (u := .int .u8 (hexD ((ints (cutS s 300)).getD i 0 % 16))) (by have e : (2 * (i : Int) + 1).toNat = 2 * i + 1 := (by omega); rw [e, bAt_ints, ints_hexS, hxi.2]) ?_
            refine ju_call rfl (by decide) rfl (goes_func rfl) (fun w1 hw1 => pcall hw1 (digit_any _ w1 (hexD_range _ (by omega) (by omega)).1 (hexD_range _ (by omega) (by omega)).2)) ?_
            refine ju_as (congrArg (Value.int .i64) (digitF_hexD _ (by omega) (by omega))) ?_
            refine ju_y rfl (by decide) rfl (y_add_fits rfl rfl (by simp only [fits]; omega)) ?_
            refine ju_y rfl (by decide) rfl (y_move rfl) ?_
            refine ju_y rfl (by decide) rfl (y_move rfl) ?_
            refine ju_y rfl (by decide) rfl (y_at_str rfl rfl (by omega) (by omega)) ?_
            refine ju_as (u := .int .u8 ((ints (cutS s 300)).getD i 0)) (by rw [Int.toNat_natCast, bAt_ints]) ?_
            first | refine ju_y rfl (by decide) rfl (y_conv_fits rfl (by simp only [fits]; omega)) ?_
            refine ju_y rfl (by decide) rfl (y_neq rfl rfl) ?_
            refine ju_prop (fun h41 => ?_) (fun h41 => ?_)
            · exfalso; omega
            · first
              | (exfalso; omega)
              | (
                refine ju_nil ?_
                refine jq_then ?_
                refine jc_false rfl ?_
                refine jc_skip ?_
                refine jq_block ?_
                refine jq_then ?_
                -- region 7
                refine jc_region ?_
                refine jl_y rfl (by decide) rfl (y_move rfl) ?_
                refine jl_y rfl (by decide) rfl (y_add_fits rfl rfl (by simp only [fits]; omega)) ?_
                refine jl_y rfl (by decide) rfl (y_assign rfl) ?_
                refine jl_nil ?_
                refine jq_round (i := i) (i + 1) ?_ ?_ ?_
                · omega
                · exact ⟨rfl, rfl, lk_int rfl (by omega), trivial⟩
                · exact fun _ h => ⟨by omega, h⟩
                )
            )
        · first
          | (exfalso; omega)
          | (
            refine jl_nil ?_
            refine jq_then ?_
            refine jc_false rfl ?_
            refine jc_exit ?_
            refine jq_then_exit ?_
            refine jq_then_exit ?_
            refine jq_hit ?_
            refine jq_then ?_
            refine jc_seq ?_
            -- region 10
            refine jc_region ?_
            refine jl_pcall rfl (by decide) rfl (goes_func rfl) (fun w1 hw1 => pcall hw1 (fixed_any w1)) ?_
            refine jl_y rfl (by decide) rfl (y_assign rfl) ?_
            refine jl_nil ?_
            refine jq_then ?_
            refine jc_ret ?_
            refine jq_ret1 rfl rfl ?_
            exact fun _ hw => ⟨rfl, hw.ch⟩
            )
      )

theorem shaBlocks_any (a b : ByteArray) (n : Int) (w : World) (hn : fits .u8 n) :
    Calls Try.prog 9 #[.string a, .string b, .int .u8 n] w fun e w' => e = .returned (.bool true) ∧ Ch [] w w' := by
  simp only [fits] at hn
  refine calls_of (n := 78) (E := [(0, .string a), (1, .string b), (2, .int .u8 n)]) (W := Hp w [] []) Try.func9 rfl rfl (Nat.le_of_ble_eq_true rfl) rfl (Hp.nil _ _) ?_
  refine jc_seq ?_
  -- region 0
  refine jc_region ?_
  refine jl_y rfl (by decide) rfl (y_assign rfl) ?_
  refine jl_nil ?_
  refine jq_then ?_
  refine jc_seq ?_
  -- region 1
  refine jc_draw (by kernel_rfl) (fun _ h => h.drew) ?_
  refine ju_y rfl (by decide) rfl (y_move rfl) ?_
  refine ju_y rfl (by decide) rfl (y_move rfl) ?_
  refine ju_y rfl (by decide) rfl (y_len_str rfl) ?_
  refine ju_y rfl (by decide) rfl (y_min rfl rfl) ?_
  refine ju_y rfl (by decide) rfl (y_substr_hi rfl rfl (by omega) (by omega)) ?_
  refine ju_as (u := .string (cutS a 300)) (congrArg Value.string (cut_eq a 300)) ?_
  refine ju_y rfl (by decide) rfl (y_move rfl) ?_
  refine ju_y rfl (by decide) rfl (y_move rfl) ?_
  refine ju_y rfl (by decide) rfl (y_len_str rfl) ?_
  refine ju_y rfl (by decide) rfl (y_min rfl rfl) ?_
  refine ju_y rfl (by decide) rfl (y_substr_hi rfl rfl (by omega) (by omega)) ?_
  refine ju_as (u := .string (cutS b 300)) (congrArg Value.string (cut_eq b 300)) ?_
  refine ju_y rfl (by decide) rfl (y_assign rfl) ?_
  refine ju_y rfl (by decide) rfl (y_assign rfl) ?_
  refine ju_nil ?_
  refine jq_then ?_
  refine jc_seq ?_
  -- region 2
  have hca := cutS_size a 300
  have hcb := cutS_size b 300
  refine jc_region ?_
  refine jl_fcall rfl (by decide) rfl (goes_func rfl) (fun w1 hw1 => new_any w1) (fun bh => ?_)
  refine jl_y rfl (by decide) rfl (y_assign rfl) ?_
  refine jl_nil ?_
  refine jq_then ?_
  refine jc_seq ?_
  refine jc_seq ?_
  -- region 3
  refine jc_region ?_
  refine jl_y rfl (by decide) rfl (y_move rfl) ?_
  refine jl_y rfl (by decide) rfl (y_eql_nil rfl rfl) ?_
  refine jl_as (u := .bool false) rfl ?_
  refine jl_nil ?_
  refine jq_then ?_
  refine jc_false rfl ?_
  refine jc_skip ?_
  refine jq_then ?_
  refine jc_seq ?_
  -- region 5
  refine jc_region ?_
  refine jl_y rfl (by decide) rfl (y_move rfl) ?_
  refine jl_y rfl (by decide) rfl (y_move rfl) ?_
  refine jl_ucall rfl (by decide) rfl (goes_func rfl) (by rfl) (fun w1 hw1 => write_any _ ⟨#[]⟩ (cutS a 300) w1 (by rw [empty_size]; omega) (by omega) hw1) (by first | exact rep0 | exact rep1 | exact rep2 | exact rep3 | exact rep4) ?_
  refine jl_nil ?_
  refine jq_then ?_
  refine jc_seq ?_
  -- region 6
  refine jc_region ?_
  refine jl_y rfl (by decide) rfl (y_move rfl) ?_
  refine jl_y rfl (by decide) rfl (y_move rfl) ?_
  refine jl_y rfl (by decide) rfl (y_concat rfl rfl (by first | omega | (simp only [ByteArray.size_append]; omega))) ?_
  refine jl_pcall rfl (by decide) rfl (goes_func rfl) (fun w1 hw1 => pcall hw1 (sum_any _ w1 (by first | omega | (rw [ByteArray.size_append]; omega)))) ?_
  refine jl_y rfl (by decide) rfl (y_assign rfl) ?_
  refine jl_nil ?_
  refine jq_then ?_
  refine jc_seq ?_
  refine jc_seq ?_
  -- region 7
  refine jc_region ?_
  refine jl_y rfl (by decide) rfl (y_assign rfl) ?_
  refine jl_nil ?_
  refine jq_then ?_
  refine jc_block ?_
  -- a loop
  refine jc_loop (fun (i : Nat) => [(2, .int .u8 n), (7, .string (cutS a 300)), (8, .string (cutS b 300)), (9, .pointer (some ⟨bh, 0, none⟩)), (10, .string (sumS (cutS a 300 ++ cutS b 300))), (11, .int .i64 (i : Nat))]) (fun (i : Nat) => fun w' => i ≤ 4 ∧ Hp w [] [.cells bh (hashV (cutS a 300))] w') (fun (i : Nat) => 4 - i) 0 ?_ ?_ ?_
  · exact ⟨rfl, rfl, rfl, rfl, rfl, rfl, trivial⟩
  · exact fun _ h => ⟨by omega, h.cast (by rw [empty_app])⟩
  · intro i
    refine jc_and (fun hi => ?_)
    refine jc_seq ?_
    refine jc_seq ?_
    -- region 8
    refine jc_region ?_
    refine jl_y rfl (by decide) rfl (y_move rfl) ?_
    refine jl_y rfl (by decide) rfl (y_move rfl) ?_
    first | refine jl_y rfl (by decide) rfl (y_conv_fits rfl (by simp only [fits]; omega)) ?_
    refine jl_y rfl (by decide) rfl (y_rem rfl rfl (by omega) (by omega)) ?_
    refine jl_y rfl (by decide) rfl (y_lss rfl rfl) ?_
    refine jl_prop (fun h37 => ?_) (fun h37 => ?_)
    · first
      | (exfalso; omega)
      | (
        refine jl_nil ?_
        refine jq_then ?_
        refine jc_true rfl ?_
        refine jc_skip ?_
        refine jq_then ?_
        refine jc_seq ?_
        refine jc_block ?_
        refine jc_seq ?_
        -- region 10
        refine jc_region ?_
        refine jl_y rfl (by decide) rfl (y_move rfl) ?_
        refine jl_fcall rfl (by decide) rfl (goes_func rfl) (fun w1 hw1 => copy_any _ (cutS a 300) w1 (old_left (hw1.get mem0)) (old_n (hw1.get mem0)) (old_st (hw1.get mem0))) (fun bc => ?_)
        refine jl_y rfl (by decide) rfl (y_assign rfl) ?_
        refine jl_nil ?_
        refine jq_then ?_
        refine jc_seq ?_
        refine jc_seq ?_
        -- region 11
        refine jc_region ?_
        refine jl_y rfl (by decide) rfl (y_move rfl) ?_
        refine jl_y rfl (by decide) rfl (y_eql_nil rfl rfl) ?_
        refine jl_as (u := .bool false) rfl ?_
        refine jl_nil ?_
        refine jq_then ?_
        refine jc_false rfl ?_
        refine jc_skip ?_
        refine jq_then ?_
        refine jc_seq ?_
        -- region 13
        refine jc_region ?_
        refine jl_y rfl (by decide) rfl (y_move rfl) ?_
        refine jl_y rfl (by decide) rfl (y_move rfl) ?_
        refine jl_ucall rfl (by decide) rfl (goes_func rfl) (by rfl) (fun w1 hw1 => write_any _ (cutS a 300) (cutS b 300) w1 (by omega) (by omega) hw1) (by first | exact rep0 | exact rep1 | exact rep2 | exact rep3 | exact rep4) ?_
        refine jl_nil ?_
        refine jq_then ?_
        refine jc_seq ?_
        -- region 14
        refine jc_region ?_
        refine jl_y rfl (by decide) rfl (y_move rfl) ?_
        refine jl_pcall rfl (by decide) rfl (goes_func rfl) (fun w1 hw1 => pcall hw1 (hsum_any _ (cutS a 300 ++ cutS b 300) w1 (by rw [ByteArray.size_append]; omega) (old_left (hw1.get mem0)) (old_n (hw1.get mem0)) (old_st (hw1.get mem0)))) ?_
        refine jl_y rfl (by decide) rfl (y_move rfl) ?_
        refine jl_y rfl (by decide) rfl (y_sneq rfl rfl) ?_
        refine jl_as (u := .bool false) (congrArg (fun b => Value.bool (!b)) (decide_eq_true (rfl))) ?_
        refine jl_y rfl (by decide) rfl (y_move rfl) ?_
        refine jl_y rfl (by decide) rfl (y_move rfl) ?_
        refine jl_pcall rfl (by decide) rfl (goes_func rfl) (fun w1 hw1 => pcall hw1 (len_any _ (cutS a 300 ++ cutS b 300) w1 (old_n (hw1.get mem0)))) ?_
        refine jl_y rfl (by decide) rfl (y_move rfl) ?_
        refine jl_y rfl (by decide) rfl (y_len_str rfl) ?_
        refine jl_y rfl (by decide) rfl (y_move rfl) ?_
        refine jl_y rfl (by decide) rfl (y_len_str rfl) ?_
        refine jl_y rfl (by decide) rfl (y_add_fits rfl rfl (by simp only [fits]; omega)) ?_
        refine jl_y rfl (by decide) rfl (y_neq rfl rfl) ?_
        refine jl_prop (fun h59 => ?_) (fun h59 => ?_)
        · exact absurd (by rw [ByteArray.size_append]; rfl) h59
        · first
          | (exfalso; omega)
          | (
            refine jl_y rfl (by decide) rfl (y_pick_false rfl rfl) ?_
            refine jl_y rfl (by decide) rfl (y_move rfl) ?_
            refine jl_y rfl (by decide) rfl (y_move rfl) ?_
            refine jl_pcall rfl (by decide) rfl (goes_func rfl) (fun w1 hw1 => pcall hw1 (len_any _ (cutS a 300) w1 (old_n (hw1.get mem1)))) ?_
            refine jl_y rfl (by decide) rfl (y_move rfl) ?_
            refine jl_y rfl (by decide) rfl (y_len_str rfl) ?_
            refine jl_y rfl (by decide) rfl (y_neq rfl rfl) ?_
            refine jl_prop (fun h66 => ?_) (fun h66 => ?_)
            · exact absurd rfl h66
            · first
              | (exfalso; omega)
              | (
                refine jl_y rfl (by decide) rfl (y_pick_false rfl rfl) ?_
                refine jl_nil ?_
                refine jq_then ?_
                refine jc_false rfl ?_
                refine jc_skip ?_
                refine jq_block ?_
                refine jq_then ?_
                -- region 9
                refine jc_region ?_
                refine jl_y rfl (by decide) rfl (y_move rfl) ?_
                refine jl_y rfl (by decide) rfl (y_add_fits rfl rfl (by simp only [fits]; omega)) ?_
                refine jl_y rfl (by decide) rfl (y_assign rfl) ?_
                refine jl_nil ?_
                refine jq_round (i := i) (i + 1) ?_ ?_ ?_
                · omega
                · exact ⟨rfl, rfl, rfl, rfl, rfl, lk_int rfl (by omega), trivial⟩
                · exact fun _ h => ⟨by omega, h.part (.cons del1 .nil)⟩
                )
            )
        )
    · first
      | (exfalso; omega)
      | (
        refine jl_nil ?_
        refine jq_then ?_
        refine jc_false rfl ?_
        refine jc_exit ?_
        refine jq_then_exit ?_
        refine jq_then_exit ?_
        refine jq_hit ?_
        refine jq_then ?_
        refine jc_seq ?_
        -- region 16
        refine jc_region ?_
        refine jl_y rfl (by decide) rfl (y_move rfl) ?_
        refine jl_ucall rfl (by decide) rfl (goes_func rfl) (by rfl) (fun w1 hw1 => write_any _ (cutS a 300) ⟨#[]⟩ w1 (by rw [empty_size]; omega) (by decide) hw1) (by first | exact rep0 | exact rep1 | exact rep2 | exact rep3 | exact rep4) ?_
        refine jl_nil ?_
        refine jq_then ?_
        refine jc_seq ?_
        -- region 17
        refine jc_world (fun _ h => h.cast (H' := [.cells bh (hashV (cutS a 300))]) (by rw [app_empty])) ?_
        refine jc_region ?_
        refine jl_y rfl (by decide) rfl (y_move rfl) ?_
        refine jl_pcall rfl (by decide) rfl (goes_func rfl) (fun w1 hw1 => pcall hw1 (hsum_any _ (cutS a 300) w1 (by omega) (old_left (hw1.get mem0)) (old_n (hw1.get mem0)) (old_st (hw1.get mem0)))) ?_
        refine jl_y rfl (by decide) rfl (y_move rfl) ?_
        refine jl_pcall rfl (by decide) rfl (goes_func rfl) (fun w1 hw1 => pcall hw1 (sum_any _ w1 (by first | omega | (rw [ByteArray.size_append]; omega)))) ?_
        refine jl_y rfl (by decide) rfl (y_seql rfl rfl) ?_
        refine jl_as (u := .bool true) (congrArg (fun b => Value.bool b) (decide_eq_true (rfl))) ?_
        refine jl_y rfl (by decide) rfl (y_move rfl) ?_
        refine jl_pcall rfl (by decide) rfl (goes_func rfl) (fun w1 hw1 => pcall hw1 (fixed_any w1)) ?_
        refine jl_y rfl (by decide) rfl (y_pick_true rfl rfl) ?_
        refine jl_y rfl (by decide) rfl (y_assign rfl) ?_
        refine jl_nil ?_
        refine jq_then ?_
        refine jc_ret ?_
        refine jq_ret1 rfl rfl ?_
        exact fun _ hw => ⟨rfl, hw.ch⟩
        )

end Go.Proofs.Ytfghgngobbhiiaa