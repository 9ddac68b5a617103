/- The walk of one law of layer 2. Written by program (walk.py) out of a table of contracts and invariants. -/
import Derived.Test.YtfghgngobbhiiaaLw
import Derived.Test.YtfghgngobbhiiaaJi
namespace Go.Proofs.Ytfghgngobbhiiaa
open Go.RowKit
set_option maxRecDepth 100000
set_option linter.unusedVariables false
set_option linter.unusedSimpArgs false

theorem shaOrder_any (word a b : ByteArray) (w : World) :
    Calls Try.prog 8 #[.string word, .string a, .string b] w fun e w' => e = .returned (.bool true) ∧ Ch [] w w' := by
  refine calls_of (n := 82) (E := [(0, .string word), (1, .string a), (2, .string b)]) (W := Hp w [] []) Try.func8 rfl rfl (Nat.le_of_ble_eq_true rfl) rfl (Hp.nil _ _) ?_
  refine jc_seq ?_
  -- region 0
  refine jc_region ?_
  refine jl_y rfl (by decide) rfl (y_assign rfl) ?_
  refine jl_nil ?_
  refine jq_then ?_
  refine jc_seq ?_
  -- region 1
  refine jc_draw (by kernel_rfl) (fun _ h => h.drew) ?_
  refine ju_y rfl (by decide) rfl (y_move rfl) ?_
  refine ju_y rfl (by decide) rfl (y_move rfl) ?_
  refine ju_y rfl (by decide) rfl (y_len_str rfl) ?_
  refine ju_y rfl (by decide) rfl (y_min rfl rfl) ?_
  refine ju_y rfl (by decide) rfl (y_substr_hi rfl rfl (by omega) (by omega)) ?_
  refine ju_as (u := .string (cutS word 200)) (congrArg Value.string (cut_eq word 200)) ?_
  refine ju_y rfl (by decide) rfl (y_move rfl) ?_
  refine ju_y rfl (by decide) rfl (y_move rfl) ?_
  refine ju_y rfl (by decide) rfl (y_len_str rfl) ?_
  refine ju_y rfl (by decide) rfl (y_min rfl rfl) ?_
  refine ju_y rfl (by decide) rfl (y_substr_hi rfl rfl (by omega) (by omega)) ?_
  refine ju_as (u := .string (cutS a 200)) (congrArg Value.string (cut_eq a 200)) ?_
  refine ju_y rfl (by decide) rfl (y_move rfl) ?_
  refine ju_y rfl (by decide) rfl (y_move rfl) ?_
  refine ju_y rfl (by decide) rfl (y_len_str rfl) ?_
  refine ju_y rfl (by decide) rfl (y_min rfl rfl) ?_
  refine ju_y rfl (by decide) rfl (y_substr_hi rfl rfl (by omega) (by omega)) ?_
  refine ju_as (u := .string (cutS b 200)) (congrArg Value.string (cut_eq b 200)) ?_
  refine ju_y rfl (by decide) rfl (y_assign rfl) ?_
  refine ju_y rfl (by decide) rfl (y_assign rfl) ?_
  refine ju_y rfl (by decide) rfl (y_assign rfl) ?_
  refine ju_nil ?_
  refine jq_then ?_
  refine jc_seq ?_
  -- region 2
  have hcw := cutS_size word 200
  have hca := cutS_size a 200
  have hcb := cutS_size b 200
  have ht1 : (tagPre (cutS word 200) [cutS a 200]).size ≤ 1000 := by simp only [tagPre, List.foldl_cons, List.foldl_nil, ByteArray.size_append, partS_size, oneB, strOfNums_size, List.length_cons, List.length_nil]; omega
  have ht2 : (tagPre (cutS word 200) [cutS a 200, cutS b 200]).size ≤ 1000 := by simp only [tagPre, List.foldl_cons, List.foldl_nil, ByteArray.size_append, partS_size, oneB, strOfNums_size, List.length_cons, List.length_nil]; omega
  refine jc_region ?_
  refine jl_y rfl (by decide) rfl (y_move rfl) ?_
  refine jl_y rfl (by decide) rfl (y_len_str rfl) ?_
  refine jl_y rfl (by decide) rfl (y_conv_u8 rfl) ?_
  refine jl_m rfl (by decide) rfl (m_buildSlice (by decide) (Built.cell rfl rfl rfl (by repeat constructor) Built.nil)) (fun b29 => ?_)
  refine jl_y rfl (by decide) rfl (y_str_own rfl (by first | exact mem0 | exact mem1 | exact mem2 | exact mem3 | exact mem4 | exact mem5) (by repeat constructor)) ?_
  refine jl_y rfl (by decide) rfl (y_move rfl) ?_
  refine jl_y rfl (by decide) rfl (y_concat rfl rfl (by simp only [ByteArray.size_append, strOfNums_size, List.length_cons, List.length_nil]; omega)) ?_
  refine jl_y rfl (by decide) rfl (y_move rfl) ?_
  refine jl_y rfl (by decide) rfl (y_len_str rfl) ?_
  refine jl_y rfl (by decide) rfl (y_conv_u8 rfl) ?_
  refine jl_m rfl (by decide) rfl (m_buildSlice (by decide) (Built.cell rfl rfl rfl (by repeat constructor) (Built.cell rfl rfl rfl (by repeat constructor) Built.nil))) (fun b36 => ?_)
  refine jl_y rfl (by decide) rfl (y_str_own rfl (by first | exact mem0 | exact mem1 | exact mem2 | exact mem3 | exact mem4 | exact mem5) (by repeat constructor)) ?_
  refine jl_y rfl (by decide) rfl (y_concat rfl rfl (by simp only [ByteArray.size_append, strOfNums_size, List.length_cons, List.length_nil]; omega)) ?_
  refine jl_y rfl (by decide) rfl (y_move rfl) ?_
  refine jl_y rfl (by decide) rfl (y_concat rfl rfl (by simp only [ByteArray.size_append, strOfNums_size, List.length_cons, List.length_nil]; omega)) ?_
  refine jl_as (u := .string (tagPre (cutS word 200) [cutS a 200])) (congrArg Value.string (parts_order _ _ (by omega))) ?_
  refine jl_y rfl (by decide) rfl (y_assign rfl) ?_
  refine jl_nil ?_
  refine jq_then ?_
  refine jc_seq ?_
  -- region 3
  refine jc_tree 41 (.step 0 true (.step 1 true (.step 4 true (.step 2 false (.step 3 false (.step 5 false (.step 6 true (.step 7 true (.step 8 true (.step 9 true (.step 10 true (.step 13 true (.step 14 true (.step 15 true (.step 16 true (.step 20 true (.fork 11 (.fork 12 (.step 17 false (.step 18 false (.step 19 true (.step 21 true (.step 22 false (.step 23 true (.step 24 true (.step 25 true (.step 26 true (.step 28 true (.step 29 true (.step 30 true (.step 33 true (.fork 27 (.step 31 false (.step 32 false (.step 34 true (.step 35 false (.step 36 true (.step 37 true (.step 38 true (.step 39 false (.step 40 true .nil))))))))) 31 (.fork 27 (.step 32 false (.step 34 true (.step 35 false (.step 36 true (.step 37 true (.step 38 true (.step 39 false (.step 40 true .nil)))))))) 32 (.step 34 true (.step 27 false (.step 35 false (.step 36 true (.step 37 true (.step 38 true (.step 39 false (.step 40 true .nil))))))))))))))))))))))) 17 (.fork 12 (.step 18 false (.step 19 true (.step 21 true (.step 22 false (.step 23 true (.step 24 true (.step 25 true (.step 26 true (.step 28 true (.step 29 true (.step 30 true (.step 33 true (.fork 27 (.step 31 false (.step 32 false (.step 34 true (.step 35 false (.step 36 true (.step 37 true (.step 38 true (.step 39 false (.step 40 true .nil))))))))) 31 (.fork 27 (.step 32 false (.step 34 true (.step 35 false (.step 36 true (.step 37 true (.step 38 true (.step 39 false (.step 40 true .nil)))))))) 32 (.step 34 true (.step 27 false (.step 35 false (.step 36 true (.step 37 true (.step 38 true (.step 39 false (.step 40 true .nil)))))))))))))))))))))) 18 (.step 19 true (.step 21 true (.step 12 false (.step 22 false (.step 23 true (.step 24 true (.step 25 true (.step 26 true (.step 28 true (.step 29 true (.step 30 true (.step 33 true (.fork 27 (.step 31 false (.step 32 false (.step 34 true (.step 35 false (.step 36 true (.step 37 true (.step 38 true (.step 39 false (.step 40 true .nil))))))))) 31 (.fork 27 (.step 32 false (.step 34 true (.step 35 false (.step 36 true (.step 37 true (.step 38 true (.step 39 false (.step 40 true .nil)))))))) 32 (.step 34 true (.step 27 false (.step 35 false (.step 36 true (.step 37 true (.step 38 true (.step 39 false (.step 40 true .nil)))))))))))))))))))))))) 17 (.fork 11 (.fork 12 (.step 18 false (.step 19 true (.step 21 true (.step 22 false (.step 23 true (.step 24 true (.step 25 true (.step 26 true (.step 28 true (.step 29 true (.step 30 true (.step 33 true (.fork 27 (.step 31 false (.step 32 false (.step 34 true (.step 35 false (.step 36 true (.step 37 true (.step 38 true (.step 39 false (.step 40 true .nil))))))))) 31 (.fork 27 (.step 32 false (.step 34 true (.step 35 false (.step 36 true (.step 37 true (.step 38 true (.step 39 false (.step 40 true .nil)))))))) 32 (.step 34 true (.step 27 false (.step 35 false (.step 36 true (.step 37 true (.step 38 true (.step 39 false (.step 40 true .nil)))))))))))))))))))))) 18 (.step 19 true (.step 21 true (.step 12 false (.step 22 false (.step 23 true (.step 24 true (.step 25 true (.step 26 true (.step 28 true (.step 29 true (.step 30 true (.step 33 true (.fork 27 (.step 31 false (.step 32 false (.step 34 true (.step 35 false (.step 36 true (.step 37 true (.step 38 true (.step 39 false (.step 40 true .nil))))))))) 31 (.fork 27 (.step 32 false (.step 34 true (.step 35 false (.step 36 true (.step 37 true (.step 38 true (.step 39 false (.step 40 true .nil)))))))) 32 (.step 34 true (.step 27 false (.step 35 false (.step 36 true (.step 37 true (.step 38 true (.step 39 false (.step 40 true .nil))))))))))))))))))))))) 18 (.step 19 true (.step 21 true (.step 11 false (.step 12 false (.step 22 false (.step 23 true (.step 24 true (.step 25 true (.step 26 true (.step 28 true (.step 29 true (.step 30 true (.step 33 true (.fork 27 (.step 31 false (.step 32 false (.step 34 true (.step 35 false (.step 36 true (.step 37 true (.step 38 true (.step 39 false (.step 40 true .nil))))))))) 31 (.fork 27 (.step 32 false (.step 34 true (.step 35 false (.step 36 true (.step 37 true (.step 38 true (.step 39 false (.step 40 true .nil)))))))) 32 (.step 34 true (.step 27 false (.step 35 false (.step 36 true (.step 37 true (.step 38 true (.step 39 false (.step 40 true .nil))))))))))))))))))))))))))))))))))))))))) (by kernel_rfl) (fun _ _ _ _ h => h) (fun _ h => h.drew) ?_
  simp only [List.drop_succ_cons, List.drop_zero]
  refine jf_take rfl rfl (by decide) rfl (y_move rfl) ?_
  refine jf_take rfl rfl (by decide) rfl (y_move rfl) ?_
  refine jf_take rfl rfl (by decide) rfl (y_move rfl) ?_
  refine jf_m (by intros; rename_i h; first | exact h | exact h.pop | exact h.pop.pop | exact h.pop.pop.pop | exact h.pop.pop.pop.pop | exact h.pop.pop.pop.pop.pop | exact h.pop.pop.pop.pop.pop.pop) rfl rfl (by decide) rfl (m_buildSlice (by decide) (Built.cell rfl rfl rfl (by repeat constructor) Built.nil)) (fun b43 => ?_)
  refine jf_pcall (by intro _ h; first | exact h | exact h.pop | exact h.pop.pop | exact h.pop.pop.pop | exact h.pop.pop.pop.pop | exact h.pop.pop.pop.pop.pop | exact h.pop.pop.pop.pop.pop.pop) rfl rfl (by decide) rfl (goes_func rfl) (fun w1 hw1 => pcall hw1 (tag_any _ (some ⟨b43, 0, none⟩) 1 [cutS a 200] w1 (by omega) (by simp) (by intro p hp; rw [List.mem_singleton.1 hp]; omega) (Strs.of_row (hw1.get mem0)))) ?_
  refine jf_pcall (by intro _ h; first | exact h | exact h.pop | exact h.pop.pop | exact h.pop.pop.pop | exact h.pop.pop.pop.pop | exact h.pop.pop.pop.pop.pop | exact h.pop.pop.pop.pop.pop.pop) rfl rfl (by decide) rfl (goes_func rfl) (fun w1 hw1 => pcall hw1 (short_any _ w1 (by first | omega | (simp only [ByteArray.size_append, strOfNums_size, List.length_cons, List.length_nil]; omega)))) ?_
  refine jf_take rfl rfl (by decide) rfl (y_seql rfl rfl) ?_
  refine jf_as (u := .bool true) (congrArg (fun b => Value.bool b) (decide_eq_true (rfl))) ?_
  refine jf_take rfl rfl (by decide) rfl (y_move rfl) ?_
  refine jf_take rfl rfl (by decide) rfl (y_move rfl) ?_
  refine jf_take rfl rfl (by decide) rfl (y_move rfl) ?_
  refine jf_take rfl rfl (by decide) rfl (y_move rfl) ?_
  refine jf_take rfl rfl (by decide) rfl (y_move rfl) ?_
  refine jf_take rfl rfl (by decide) rfl (y_move rfl) ?_
  refine jf_take rfl rfl (by decide) rfl (y_len_str rfl) ?_
  refine jf_take rfl rfl (by decide) rfl (y_conv_u8 rfl) ?_
  refine jf_take rfl rfl (by decide) rfl (y_move rfl) ?_
  refine jf_fork ?_ ?_
  · skip
    refine jf_m (by intros; rename_i h; first | exact h | exact h.pop | exact h.pop.pop | exact h.pop.pop.pop | exact h.pop.pop.pop.pop | exact h.pop.pop.pop.pop.pop | exact h.pop.pop.pop.pop.pop.pop) rfl rfl (by decide) rfl (m_buildSlice (by decide) (Built.cell rfl rfl rfl (by repeat constructor) (Built.cell rfl rfl rfl (by repeat constructor) Built.nil))) (fun b52 => ?_)
    refine jf_fork ?_ ?_
    · skip
      refine jf_pcall (by intro _ h; first | exact h | exact h.pop | exact h.pop.pop | exact h.pop.pop.pop | exact h.pop.pop.pop.pop | exact h.pop.pop.pop.pop.pop | exact h.pop.pop.pop.pop.pop.pop) rfl rfl (by decide) rfl (goes_func rfl) (fun w1 hw1 => pcall hw1 (tag_any _ (some ⟨b52, 0, none⟩) 2 [cutS a 200, cutS b 200] w1 (by omega) (by simp) (by intro p hp; simp only [List.mem_cons, List.not_mem_nil, or_false] at hp; rcases hp with rfl | rfl <;> omega) (by first | exact Strs.of_row (hw1.get mem0) | exact Strs.of_row (hw1.get mem1)))) ?_
      refine jf_m (by intros; rename_i h; first | exact h | exact h.pop | exact h.pop.pop | exact h.pop.pop.pop | exact h.pop.pop.pop.pop | exact h.pop.pop.pop.pop.pop | exact h.pop.pop.pop.pop.pop.pop) rfl rfl (by decide) rfl (m_buildSlice (by decide) (Built.cell rfl rfl rfl (by repeat constructor) (Built.cell rfl rfl rfl (by repeat constructor) Built.nil))) (fun b58 => ?_)
      refine jf_y (by intro _ h; first | exact h | exact h.pop | exact h.pop.pop | exact h.pop.pop.pop | exact h.pop.pop.pop.pop | exact h.pop.pop.pop.pop.pop | exact h.pop.pop.pop.pop.pop.pop) rfl rfl (by decide) rfl (y_str_own rfl (by first | exact mem0 | exact mem1 | exact mem2 | exact mem3 | exact mem4 | exact mem5) (by repeat constructor)) ?_
      refine jf_take rfl rfl (by decide) rfl (y_concat rfl rfl (by simp only [ByteArray.size_append, strOfNums_size, List.length_cons, List.length_nil]; omega)) ?_
      refine jf_take rfl rfl (by decide) rfl (y_concat rfl rfl (by simp only [ByteArray.size_append, strOfNums_size, List.length_cons, List.length_nil]; omega)) ?_
      refine jf_as (u := .string (tagPre (cutS word 200) [cutS a 200, cutS b 200])) (congrArg Value.string (parts_order2 _ _ _ (by omega))) ?_
      refine jf_pcall (by intro _ h; first | exact h | exact h.pop | exact h.pop.pop | exact h.pop.pop.pop | exact h.pop.pop.pop.pop | exact h.pop.pop.pop.pop.pop | exact h.pop.pop.pop.pop.pop.pop) rfl rfl (by decide) rfl (goes_func rfl) (fun w1 hw1 => pcall hw1 (short_any _ w1 (by first | omega | (simp only [ByteArray.size_append, strOfNums_size, List.length_cons, List.length_nil]; omega)))) ?_
      refine jf_take rfl rfl (by decide) rfl (y_seql rfl rfl) ?_
      refine jf_as (u := .bool true) (congrArg (fun b => Value.bool b) (decide_eq_true (rfl))) ?_
      refine jf_take rfl rfl (by decide) rfl (y_pick_true rfl rfl) ?_
      refine jf_take rfl rfl (by decide) rfl (y_move rfl) ?_
      refine jf_take rfl rfl (by decide) rfl (y_move rfl) ?_
      refine jf_take rfl rfl (by decide) rfl (y_move rfl) ?_
      refine jf_take rfl rfl (by decide) rfl (y_len_str rfl) ?_
      refine jf_take rfl rfl (by decide) rfl (y_conv_u8 rfl) ?_
      refine jf_take rfl rfl (by decide) rfl (y_move rfl) ?_
      refine jf_fork ?_ ?_
      · skip
        refine jf_pcall (by intro _ h; first | exact h | exact h.pop | exact h.pop.pop | exact h.pop.pop.pop | exact h.pop.pop.pop.pop | exact h.pop.pop.pop.pop.pop | exact h.pop.pop.pop.pop.pop.pop) rfl rfl (by decide) rfl (goes_func rfl) (fun w1 hw1 => pcall hw1 (tag_any _ none 0 [] w1 (by omega) (by decide) (by simp) (strs_none _))) ?_
        refine jf_m (by intros; rename_i h; first | exact h | exact h.pop | exact h.pop.pop | exact h.pop.pop.pop | exact h.pop.pop.pop.pop | exact h.pop.pop.pop.pop.pop | exact h.pop.pop.pop.pop.pop.pop) rfl rfl (by decide) rfl (m_buildSlice (by decide) (Built.cell rfl rfl rfl (by repeat constructor) Built.nil)) (fun b72 => ?_)
        refine jf_y (by intro _ h; first | exact h | exact h.pop | exact h.pop.pop | exact h.pop.pop.pop | exact h.pop.pop.pop.pop | exact h.pop.pop.pop.pop.pop | exact h.pop.pop.pop.pop.pop.pop) rfl rfl (by decide) rfl (y_str_own rfl (by first | exact mem0 | exact mem1 | exact mem2 | exact mem3 | exact mem4 | exact mem5) (by repeat constructor)) ?_
        refine jf_take rfl rfl (by decide) rfl (y_concat rfl rfl (by simp only [ByteArray.size_append, strOfNums_size, List.length_cons, List.length_nil]; omega)) ?_
        refine jf_pcall (by intro _ h; first | exact h | exact h.pop | exact h.pop.pop | exact h.pop.pop.pop | exact h.pop.pop.pop.pop | exact h.pop.pop.pop.pop.pop | exact h.pop.pop.pop.pop.pop.pop) rfl rfl (by decide) rfl (goes_func rfl) (fun w1 hw1 => pcall hw1 (short_any _ w1 (by first | omega | (simp only [ByteArray.size_append, strOfNums_size, List.length_cons, List.length_nil]; omega)))) ?_
        refine jf_take rfl rfl (by decide) rfl (y_seql rfl rfl) ?_
        refine jf_as (u := .bool true) (congrArg (fun b => Value.bool b) (decide_eq_true (rfl))) ?_
        refine jf_take rfl rfl (by decide) rfl (y_pick_true rfl rfl) ?_
        refine jf_take rfl rfl (by decide) rfl (y_move rfl) ?_
        refine jf_pcall (by intro _ h; first | exact h | exact h.pop | exact h.pop.pop | exact h.pop.pop.pop | exact h.pop.pop.pop.pop | exact h.pop.pop.pop.pop.pop | exact h.pop.pop.pop.pop.pop.pop) rfl rfl (by decide) rfl (goes_func rfl) (fun w1 hw1 => pcall hw1 (fixed_any w1)) ?_
        refine jf_take rfl rfl (by decide) rfl (y_pick_true rfl rfl) ?_
        refine jf_nil ?_
        refine jl_y rfl (by decide) rfl (y_assign rfl) ?_
        refine jl_nil ?_
        refine jq_then ?_
        refine jc_ret ?_
        refine jq_ret1 rfl rfl ?_
        exact fun _ hw => ⟨rfl, hw.ch⟩
      · skip
        refine jf_m (by intros; rename_i h; first | exact h | exact h.pop | exact h.pop.pop | exact h.pop.pop.pop | exact h.pop.pop.pop.pop | exact h.pop.pop.pop.pop.pop | exact h.pop.pop.pop.pop.pop.pop) rfl rfl (by decide) rfl (m_buildSlice (by decide) (Built.cell rfl rfl rfl (by repeat constructor) Built.nil)) (fun b72 => ?_)
        refine jf_fork ?_ ?_
        · skip
          refine jf_pcall (by intro _ h; first | exact h | exact h.pop | exact h.pop.pop | exact h.pop.pop.pop | exact h.pop.pop.pop.pop | exact h.pop.pop.pop.pop.pop | exact h.pop.pop.pop.pop.pop.pop) rfl rfl (by decide) rfl (goes_func rfl) (fun w1 hw1 => pcall hw1 (tag_any _ none 0 [] w1 (by omega) (by decide) (by simp) (strs_none _))) ?_
          refine jf_y (by intro _ h; first | exact h | exact h.pop | exact h.pop.pop | exact h.pop.pop.pop | exact h.pop.pop.pop.pop | exact h.pop.pop.pop.pop.pop | exact h.pop.pop.pop.pop.pop.pop) rfl rfl (by decide) rfl (y_str_own rfl (by first | exact mem0 | exact mem1 | exact mem2 | exact mem3 | exact mem4 | exact mem5) (by repeat constructor)) ?_
          refine jf_take rfl rfl (by decide) rfl (y_concat rfl rfl (by simp only [ByteArray.size_append, strOfNums_size, List.length_cons, List.length_nil]; omega)) ?_
          refine jf_pcall (by intro _ h; first | exact h | exact h.pop | exact h.pop.pop | exact h.pop.pop.pop | exact h.pop.pop.pop.pop | exact h.pop.pop.pop.pop.pop | exact h.pop.pop.pop.pop.pop.pop) rfl rfl (by decide) rfl (goes_func rfl) (fun w1 hw1 => pcall hw1 (short_any _ w1 (by first | omega | (simp only [ByteArray.size_append, strOfNums_size, List.length_cons, List.length_nil]; omega)))) ?_
          refine jf_take rfl rfl (by decide) rfl (y_seql rfl rfl) ?_
          refine jf_as (u := .bool true) (congrArg (fun b => Value.bool b) (decide_eq_true (rfl))) ?_
          refine jf_take rfl rfl (by decide) rfl (y_pick_true rfl rfl) ?_
          refine jf_take rfl rfl (by decide) rfl (y_move rfl) ?_
          refine jf_pcall (by intro _ h; first | exact h | exact h.pop | exact h.pop.pop | exact h.pop.pop.pop | exact h.pop.pop.pop.pop | exact h.pop.pop.pop.pop.pop | exact h.pop.pop.pop.pop.pop.pop) rfl rfl (by decide) rfl (goes_func rfl) (fun w1 hw1 => pcall hw1 (fixed_any w1)) ?_
          refine jf_take rfl rfl (by decide) rfl (y_pick_true rfl rfl) ?_
          refine jf_nil ?_
          refine jl_y rfl (by decide) rfl (y_assign rfl) ?_
          refine jl_nil ?_
          refine jq_then ?_
          refine jc_ret ?_
          refine jq_ret1 rfl rfl ?_
          exact fun _ hw => ⟨rfl, hw.ch⟩
        · skip
          refine jf_y (by intro _ h; first | exact h | exact h.pop | exact h.pop.pop | exact h.pop.pop.pop | exact h.pop.pop.pop.pop | exact h.pop.pop.pop.pop.pop | exact h.pop.pop.pop.pop.pop.pop) rfl rfl (by decide) rfl (y_str_own rfl (by first | exact mem0 | exact mem1 | exact mem2 | exact mem3 | exact mem4 | exact mem5) (by repeat constructor)) ?_
          refine jf_take rfl rfl (by decide) rfl (y_concat rfl rfl (by simp only [ByteArray.size_append, strOfNums_size, List.length_cons, List.length_nil]; omega)) ?_
          refine jf_pcall (by intro _ h; first | exact h | exact h.pop | exact h.pop.pop | exact h.pop.pop.pop | exact h.pop.pop.pop.pop | exact h.pop.pop.pop.pop.pop | exact h.pop.pop.pop.pop.pop.pop) rfl rfl (by decide) rfl (goes_func rfl) (fun w1 hw1 => pcall hw1 (tag_any _ none 0 [] w1 (by omega) (by decide) (by simp) (strs_none _))) ?_
          refine jf_pcall (by intro _ h; first | exact h | exact h.pop | exact h.pop.pop | exact h.pop.pop.pop | exact h.pop.pop.pop.pop | exact h.pop.pop.pop.pop.pop | exact h.pop.pop.pop.pop.pop.pop) rfl rfl (by decide) rfl (goes_func rfl) (fun w1 hw1 => pcall hw1 (short_any _ w1 (by first | omega | (simp only [ByteArray.size_append, strOfNums_size, List.length_cons, List.length_nil]; omega)))) ?_
          refine jf_take rfl rfl (by decide) rfl (y_seql rfl rfl) ?_
          refine jf_as (u := .bool true) (congrArg (fun b => Value.bool b) (decide_eq_true (rfl))) ?_
          refine jf_take rfl rfl (by decide) rfl (y_pick_true rfl rfl) ?_
          refine jf_take rfl rfl (by decide) rfl (y_move rfl) ?_
          refine jf_pcall (by intro _ h; first | exact h | exact h.pop | exact h.pop.pop | exact h.pop.pop.pop | exact h.pop.pop.pop.pop | exact h.pop.pop.pop.pop.pop | exact h.pop.pop.pop.pop.pop.pop) rfl rfl (by decide) rfl (goes_func rfl) (fun w1 hw1 => pcall hw1 (fixed_any w1)) ?_
          refine jf_take rfl rfl (by decide) rfl (y_pick_true rfl rfl) ?_
          refine jf_nil ?_
          refine jl_y rfl (by decide) rfl (y_assign rfl) ?_
          refine jl_nil ?_
          refine jq_then ?_
          refine jc_ret ?_
          refine jq_ret1 rfl rfl ?_
          exact fun _ hw => ⟨rfl, hw.ch⟩
    · skip
      refine jf_m (by intros; rename_i h; first | exact h | exact h.pop | exact h.pop.pop | exact h.pop.pop.pop | exact h.pop.pop.pop.pop | exact h.pop.pop.pop.pop.pop | exact h.pop.pop.pop.pop.pop.pop) rfl rfl (by decide) rfl (m_buildSlice (by decide) (Built.cell rfl rfl rfl (by repeat constructor) (Built.cell rfl rfl rfl (by repeat constructor) Built.nil))) (fun b58 => ?_)
      refine jf_fork ?_ ?_
      · skip
        refine jf_pcall (by intro _ h; first | exact h | exact h.pop | exact h.pop.pop | exact h.pop.pop.pop | exact h.pop.pop.pop.pop | exact h.pop.pop.pop.pop.pop | exact h.pop.pop.pop.pop.pop.pop) rfl rfl (by decide) rfl (goes_func rfl) (fun w1 hw1 => pcall hw1 (tag_any _ (some ⟨b52, 0, none⟩) 2 [cutS a 200, cutS b 200] w1 (by omega) (by simp) (by intro p hp; simp only [List.mem_cons, List.not_mem_nil, or_false] at hp; rcases hp with rfl | rfl <;> omega) (by first | exact Strs.of_row (hw1.get mem0) | exact Strs.of_row (hw1.get mem1)))) ?_
        refine jf_y (by intro _ h; first | exact h | exact h.pop | exact h.pop.pop | exact h.pop.pop.pop | exact h.pop.pop.pop.pop | exact h.pop.pop.pop.pop.pop | exact h.pop.pop.pop.pop.pop.pop) rfl rfl (by decide) rfl (y_str_own rfl (by first | exact mem0 | exact mem1 | exact mem2 | exact mem3 | exact mem4 | exact mem5) (by repeat constructor)) ?_
        refine jf_take rfl rfl (by decide) rfl (y_concat rfl rfl (by simp only [ByteArray.size_append, strOfNums_size, List.length_cons, List.length_nil]; omega)) ?_
        refine jf_take rfl rfl (by decide) rfl (y_concat rfl rfl (by simp only [ByteArray.size_append, strOfNums_size, List.length_cons, List.length_nil]; omega)) ?_
        refine jf_as (u := .string (tagPre (cutS word 200) [cutS a 200, cutS b 200])) (congrArg Value.string (parts_order2 _ _ _ (by omega))) ?_
        refine jf_pcall (by intro _ h; first | exact h | exact h.pop | exact h.pop.pop | exact h.pop.pop.pop | exact h.pop.pop.pop.pop | exact h.pop.pop.pop.pop.pop | exact h.pop.pop.pop.pop.pop.pop) rfl rfl (by decide) rfl (goes_func rfl) (fun w1 hw1 => pcall hw1 (short_any _ w1 (by first | omega | (simp only [ByteArray.size_append, strOfNums_size, List.length_cons, List.length_nil]; omega)))) ?_
        refine jf_take rfl rfl (by decide) rfl (y_seql rfl rfl) ?_
        refine jf_as (u := .bool true) (congrArg (fun b => Value.bool b) (decide_eq_true (rfl))) ?_
        refine jf_take rfl rfl (by decide) rfl (y_pick_true rfl rfl) ?_
        refine jf_take rfl rfl (by decide) rfl (y_move rfl) ?_
        refine jf_take rfl rfl (by decide) rfl (y_move rfl) ?_
        refine jf_take rfl rfl (by decide) rfl (y_move rfl) ?_
        refine jf_take rfl rfl (by decide) rfl (y_len_str rfl) ?_
        refine jf_take rfl rfl (by decide) rfl (y_conv_u8 rfl) ?_
        refine jf_take rfl rfl (by decide) rfl (y_move rfl) ?_
        refine jf_fork ?_ ?_
        · skip
          refine jf_pcall (by intro _ h; first | exact h | exact h.pop | exact h.pop.pop | exact h.pop.pop.pop | exact h.pop.pop.pop.pop | exact h.pop.pop.pop.pop.pop | exact h.pop.pop.pop.pop.pop.pop) rfl rfl (by decide) rfl (goes_func rfl) (fun w1 hw1 => pcall hw1 (tag_any _ none 0 [] w1 (by omega) (by decide) (by simp) (strs_none _))) ?_
          refine jf_m (by intros; rename_i h; first | exact h | exact h.pop | exact h.pop.pop | exact h.pop.pop.pop | exact h.pop.pop.pop.pop | exact h.pop.pop.pop.pop.pop | exact h.pop.pop.pop.pop.pop.pop) rfl rfl (by decide) rfl (m_buildSlice (by decide) (Built.cell rfl rfl rfl (by repeat constructor) Built.nil)) (fun b72 => ?_)
          refine jf_y (by intro _ h; first | exact h | exact h.pop | exact h.pop.pop | exact h.pop.pop.pop | exact h.pop.pop.pop.pop | exact h.pop.pop.pop.pop.pop | exact h.pop.pop.pop.pop.pop.pop) rfl rfl (by decide) rfl (y_str_own rfl (by first | exact mem0 | exact mem1 | exact mem2 | exact mem3 | exact mem4 | exact mem5) (by repeat constructor)) ?_
          refine jf_take rfl rfl (by decide) rfl (y_concat rfl rfl (by simp only [ByteArray.size_append, strOfNums_size, List.length_cons, List.length_nil]; omega)) ?_
          refine jf_pcall (by intro _ h; first | exact h | exact h.pop | exact h.pop.pop | exact h.pop.pop.pop | exact h.pop.pop.pop.pop | exact h.pop.pop.pop.pop.pop | exact h.pop.pop.pop.pop.pop.pop) rfl rfl (by decide) rfl (goes_func rfl) (fun w1 hw1 => pcall hw1 (short_any _ w1 (by first | omega | (simp only [ByteArray.size_append, strOfNums_size, List.length_cons, List.length_nil]; omega)))) ?_
          refine jf_take rfl rfl (by decide) rfl (y_seql rfl rfl) ?_
          refine jf_as (u := .bool true) (congrArg (fun b => Value.bool b) (decide_eq_true (rfl))) ?_
          refine jf_take rfl rfl (by decide) rfl (y_pick_true rfl rfl) ?_
          refine jf_take rfl rfl (by decide) rfl (y_move rfl) ?_
          refine jf_pcall (by intro _ h; first | exact h | exact h.pop | exact h.pop.pop | exact h.pop.pop.pop | exact h.pop.pop.pop.pop | exact h.pop.pop.pop.pop.pop | exact h.pop.pop.pop.pop.pop.pop) rfl rfl (by decide) rfl (goes_func rfl) (fun w1 hw1 => pcall hw1 (fixed_any w1)) ?_
          refine jf_take rfl rfl (by decide) rfl (y_pick_true rfl rfl) ?_
          refine jf_nil ?_
          refine jl_y rfl (by decide) rfl (y_assign rfl) ?_
          refine jl_nil ?_
          refine jq_then ?_
          refine jc_ret ?_
          refine jq_ret1 rfl rfl ?_
          exact fun _ hw => ⟨rfl, hw.ch⟩
        · skip
          refine jf_m (by intros; rename_i h; first | exact h | exact h.pop | exact h.pop.pop | exact h.pop.pop.pop | exact h.pop.pop.pop.pop | exact h.pop.pop.pop.pop.pop | exact h.pop.pop.pop.pop.pop.pop) rfl rfl (by decide) rfl (m_buildSlice (by decide) (Built.cell rfl rfl rfl (by repeat constructor) Built.nil)) (fun b72 => ?_)
          refine jf_fork ?_ ?_
          · skip
            refine jf_pcall (by intro _ h; first | exact h | exact h.pop | exact h.pop.pop | exact h.pop.pop.pop | exact h.pop.pop.pop.pop | exact h.pop.pop.pop.pop.pop | exact h.pop.pop.pop.pop.pop.pop) rfl rfl (by decide) rfl (goes_func rfl) (fun w1 hw1 => pcall hw1 (tag_any _ none 0 [] w1 (by omega) (by decide) (by simp) (strs_none _))) ?_
            refine jf_y (by intro _ h; first | exact h | exact h.pop | exact h.pop.pop | exact h.pop.pop.pop | exact h.pop.pop.pop.pop | exact h.pop.pop.pop.pop.pop | exact h.pop.pop.pop.pop.pop.pop) rfl rfl (by decide) rfl (y_str_own rfl (by first | exact mem0 | exact mem1 | exact mem2 | exact mem3 | exact mem4 | exact mem5) (by repeat constructor)) ?_
            refine jf_take rfl rfl (by decide) rfl (y_concat rfl rfl (by simp only [ByteArray.size_append, strOfNums_size, List.length_cons, List.length_nil]; omega)) ?_
            refine jf_pcall (by intro _ h; first | exact h | exact h.pop | exact h.pop.pop | exact h.pop.pop.pop | exact h.pop.pop.pop.pop | exact h.pop.pop.pop.pop.pop | exact h.pop.pop.pop.pop.pop.pop) rfl rfl (by decide) rfl (goes_func rfl) (fun w1 hw1 => pcall hw1 (short_any _ w1 (by first | omega | (simp only [ByteArray.size_append, strOfNums_size, List.length_cons, List.length_nil]; omega)))) ?_
            refine jf_take rfl rfl (by decide) rfl (y_seql rfl rfl) ?_
            refine jf_as (u := .bool true) (congrArg (fun b => Value.bool b) (decide_eq_true (rfl))) ?_
            refine jf_take rfl rfl (by decide) rfl (y_pick_true rfl rfl) ?_
            refine jf_take rfl rfl (by decide) rfl (y_move rfl) ?_
            refine jf_pcall (by intro _ h; first | exact h | exact h.pop | exact h.pop.pop | exact h.pop.pop.pop | exact h.pop.pop.pop.pop | exact h.pop.pop.pop.pop.pop | exact h.pop.pop.pop.pop.pop.pop) rfl rfl (by decide) rfl (goes_func rfl) (fun w1 hw1 => pcall hw1 (fixed_any w1)) ?_
            refine jf_take rfl rfl (by decide) rfl (y_pick_true rfl rfl) ?_
            refine jf_nil ?_
            refine jl_y rfl (by decide) rfl (y_assign rfl) ?_
            refine jl_nil ?_
            refine jq_then ?_
            refine jc_ret ?_
            refine jq_ret1 rfl rfl ?_
            exact fun _ hw => ⟨rfl, hw.ch⟩
          · skip
            refine jf_y (by intro _ h; first | exact h | exact h.pop | exact h.pop.pop | exact h.pop.pop.pop | exact h.pop.pop.pop.pop | exact h.pop.pop.pop.pop.pop | exact h.pop.pop.pop.pop.pop.pop) rfl rfl (by decide) rfl (y_str_own rfl (by first | exact mem0 | exact mem1 | exact mem2 | exact mem3 | exact mem4 | exact mem5) (by repeat constructor)) ?_
            refine jf_take rfl rfl (by decide) rfl (y_concat rfl rfl (by simp only [ByteArray.size_append, strOfNums_size, List.length_cons, List.length_nil]; omega)) ?_
            refine jf_pcall (by intro _ h; first | exact h | exact h.pop | exact h.pop.pop | exact h.pop.pop.pop | exact h.pop.pop.pop.pop | exact h.pop.pop.pop.pop.pop | exact h.pop.pop.pop.pop.pop.pop) rfl rfl (by decide) rfl (goes_func rfl) (fun w1 hw1 => pcall hw1 (tag_any _ none 0 [] w1 (by omega) (by decide) (by simp) (strs_none _))) ?_
            refine jf_pcall (by intro _ h; first | exact h | exact h.pop | exact h.pop.pop | exact h.pop.pop.pop | exact h.pop.pop.pop.pop | exact h.pop.pop.pop.pop.pop | exact h.pop.pop.pop.pop.pop.pop) rfl rfl (by decide) rfl (goes_func rfl) (fun w1 hw1 => pcall hw1 (short_any _ w1 (by first | omega | (simp only [ByteArray.size_append, strOfNums_size, List.length_cons, List.length_nil]; omega)))) ?_
            refine jf_take rfl rfl (by decide) rfl (y_seql rfl rfl) ?_
            refine jf_as (u := .bool true) (congrArg (fun b => Value.bool b) (decide_eq_true (rfl))) ?_
            refine jf_take rfl rfl (by decide) rfl (y_pick_true rfl rfl) ?_
            refine jf_take rfl rfl (by decide) rfl (y_move rfl) ?_
            refine jf_pcall (by intro _ h; first | exact h | exact h.pop | exact h.pop.pop | exact h.pop.pop.pop | exact h.pop.pop.pop.pop | exact h.pop.pop.pop.pop.pop | exact h.pop.pop.pop.pop.pop.pop) rfl rfl (by decide) rfl (goes_func rfl) (fun w1 hw1 => pcall hw1 (fixed_any w1)) ?_
            refine jf_take rfl rfl (by decide) rfl (y_pick_true rfl rfl) ?_
            refine jf_nil ?_
            refine jl_y rfl (by decide) rfl (y_assign rfl) ?_
            refine jl_nil ?_
            refine jq_then ?_
            refine jc_ret ?_
            refine jq_ret1 rfl rfl ?_
            exact fun _ hw => ⟨rfl, hw.ch⟩
      · skip
        refine jf_y (by intro _ h; first | exact h | exact h.pop | exact h.pop.pop | exact h.pop.pop.pop | exact h.pop.pop.pop.pop | exact h.pop.pop.pop.pop.pop | exact h.pop.pop.pop.pop.pop.pop) rfl rfl (by decide) rfl (y_str_own rfl (by first | exact mem0 | exact mem1 | exact mem2 | exact mem3 | exact mem4 | exact mem5) (by repeat constructor)) ?_
        refine jf_take rfl rfl (by decide) rfl (y_concat rfl rfl (by simp only [ByteArray.size_append, strOfNums_size, List.length_cons, List.length_nil]; omega)) ?_
        refine jf_take rfl rfl (by decide) rfl (y_concat rfl rfl (by simp only [ByteArray.size_append, strOfNums_size, List.length_cons, List.length_nil]; omega)) ?_
        refine jf_as (u := .string (tagPre (cutS word 200) [cutS a 200, cutS b 200])) (congrArg Value.string (parts_order2 _ _ _ (by omega))) ?_
        refine jf_pcall (by intro _ h; first | exact h | exact h.pop | exact h.pop.pop | exact h.pop.pop.pop | exact h.pop.pop.pop.pop | exact h.pop.pop.pop.pop.pop | exact h.pop.pop.pop.pop.pop.pop) rfl rfl (by decide) rfl (goes_func rfl) (fun w1 hw1 => pcall hw1 (tag_any _ (some ⟨b52, 0, none⟩) 2 [cutS a 200, cutS b 200] w1 (by omega) (by simp) (by intro p hp; simp only [List.mem_cons, List.not_mem_nil, or_false] at hp; rcases hp with rfl | rfl <;> omega) (by first | exact Strs.of_row (hw1.get mem0) | exact Strs.of_row (hw1.get mem1)))) ?_
        refine jf_pcall (by intro _ h; first | exact h | exact h.pop | exact h.pop.pop | exact h.pop.pop.pop | exact h.pop.pop.pop.pop | exact h.pop.pop.pop.pop.pop | exact h.pop.pop.pop.pop.pop.pop) rfl rfl (by decide) rfl (goes_func rfl) (fun w1 hw1 => pcall hw1 (short_any _ w1 (by first | omega | (simp only [ByteArray.size_append, strOfNums_size, List.length_cons, List.length_nil]; omega)))) ?_
        refine jf_take rfl rfl (by decide) rfl (y_seql rfl rfl) ?_
        refine jf_as (u := .bool true) (congrArg (fun b => Value.bool b) (decide_eq_true (rfl))) ?_
        refine jf_take rfl rfl (by decide) rfl (y_pick_true rfl rfl) ?_
        refine jf_take rfl rfl (by decide) rfl (y_move rfl) ?_
        refine jf_take rfl rfl (by decide) rfl (y_move rfl) ?_
        refine jf_take rfl rfl (by decide) rfl (y_move rfl) ?_
        refine jf_take rfl rfl (by decide) rfl (y_len_str rfl) ?_
        refine jf_take rfl rfl (by decide) rfl (y_conv_u8 rfl) ?_
        refine jf_take rfl rfl (by decide) rfl (y_move rfl) ?_
        refine jf_fork ?_ ?_
        · skip
          refine jf_pcall (by intro _ h; first | exact h | exact h.pop | exact h.pop.pop | exact h.pop.pop.pop | exact h.pop.pop.pop.pop | exact h.pop.pop.pop.pop.pop | exact h.pop.pop.pop.pop.pop.pop) rfl rfl (by decide) rfl (goes_func rfl) (fun w1 hw1 => pcall hw1 (tag_any _ none 0 [] w1 (by omega) (by decide) (by simp) (strs_none _))) ?_
          refine jf_m (by intros; rename_i h; first | exact h | exact h.pop | exact h.pop.pop | exact h.pop.pop.pop | exact h.pop.pop.pop.pop | exact h.pop.pop.pop.pop.pop | exact h.pop.pop.pop.pop.pop.pop) rfl rfl (by decide) rfl (m_buildSlice (by decide) (Built.cell rfl rfl rfl (by repeat constructor) Built.nil)) (fun b72 => ?_)
          refine jf_y (by intro _ h; first | exact h | exact h.pop | exact h.pop.pop | exact h.pop.pop.pop | exact h.pop.pop.pop.pop | exact h.pop.pop.pop.pop.pop | exact h.pop.pop.pop.pop.pop.pop) rfl rfl (by decide) rfl (y_str_own rfl (by first | exact mem0 | exact mem1 | exact mem2 | exact mem3 | exact mem4 | exact mem5) (by repeat constructor)) ?_
          refine jf_take rfl rfl (by decide) rfl (y_concat rfl rfl (by simp only [ByteArray.size_append, strOfNums_size, List.length_cons, List.length_nil]; omega)) ?_
          refine jf_pcall (by intro _ h; first | exact h | exact h.pop | exact h.pop.pop | exact h.pop.pop.pop | exact h.pop.pop.pop.pop | exact h.pop.pop.pop.pop.pop | exact h.pop.pop.pop.pop.pop.pop) rfl rfl (by decide) rfl (goes_func rfl) (fun w1 hw1 => pcall hw1 (short_any _ w1 (by first | omega | (simp only [ByteArray.size_append, strOfNums_size, List.length_cons, List.length_nil]; omega)))) ?_
          refine jf_take rfl rfl (by decide) rfl (y_seql rfl rfl) ?_
          refine jf_as (u := .bool true) (congrArg (fun b => Value.bool b) (decide_eq_true (rfl))) ?_
          refine jf_take rfl rfl (by decide) rfl (y_pick_true rfl rfl) ?_
          refine jf_take rfl rfl (by decide) rfl (y_move rfl) ?_
          refine jf_pcall (by intro _ h; first | exact h | exact h.pop | exact h.pop.pop | exact h.pop.pop.pop | exact h.pop.pop.pop.pop | exact h.pop.pop.pop.pop.pop | exact h.pop.pop.pop.pop.pop.pop) rfl rfl (by decide) rfl (goes_func rfl) (fun w1 hw1 => pcall hw1 (fixed_any w1)) ?_
          refine jf_take rfl rfl (by decide) rfl (y_pick_true rfl rfl) ?_
          refine jf_nil ?_
          refine jl_y rfl (by decide) rfl (y_assign rfl) ?_
          refine jl_nil ?_
          refine jq_then ?_
          refine jc_ret ?_
          refine jq_ret1 rfl rfl ?_
          exact fun _ hw => ⟨rfl, hw.ch⟩
        · skip
          refine jf_m (by intros; rename_i h; first | exact h | exact h.pop | exact h.pop.pop | exact h.pop.pop.pop | exact h.pop.pop.pop.pop | exact h.pop.pop.pop.pop.pop | exact h.pop.pop.pop.pop.pop.pop) rfl rfl (by decide) rfl (m_buildSlice (by decide) (Built.cell rfl rfl rfl (by repeat constructor) Built.nil)) (fun b72 => ?_)
          refine jf_fork ?_ ?_
          · skip
            refine jf_pcall (by intro _ h; first | exact h | exact h.pop | exact h.pop.pop | exact h.pop.pop.pop | exact h.pop.pop.pop.pop | exact h.pop.pop.pop.pop.pop | exact h.pop.pop.pop.pop.pop.pop) rfl rfl (by decide) rfl (goes_func rfl) (fun w1 hw1 => pcall hw1 (tag_any _ none 0 [] w1 (by omega) (by decide) (by simp) (strs_none _))) ?_
            refine jf_y (by intro _ h; first | exact h | exact h.pop | exact h.pop.pop | exact h.pop.pop.pop | exact h.pop.pop.pop.pop | exact h.pop.pop.pop.pop.pop | exact h.pop.pop.pop.pop.pop.pop) rfl rfl (by decide) rfl (y_str_own rfl (by first | exact mem0 | exact mem1 | exact mem2 | exact mem3 | exact mem4 | exact mem5) (by repeat constructor)) ?_
            refine jf_take rfl rfl (by decide) rfl (y_concat rfl rfl (by simp only [ByteArray.size_append, strOfNums_size, List.length_cons, List.length_nil]; omega)) ?_
            refine jf_pcall (by intro _ h; first | exact h | exact h.pop | exact h.pop.pop | exact h.pop.pop.pop | exact h.pop.pop.pop.pop | exact h.pop.pop.pop.pop.pop | exact h.pop.pop.pop.pop.pop.pop) rfl rfl (by decide) rfl (goes_func rfl) (fun w1 hw1 => pcall hw1 (short_any _ w1 (by first | omega | (simp only [ByteArray.size_append, strOfNums_size, List.length_cons, List.length_nil]; omega)))) ?_
            refine jf_take rfl rfl (by decide) rfl (y_seql rfl rfl) ?_
            refine jf_as (u := .bool true) (congrArg (fun b => Value.bool b) (decide_eq_true (rfl))) ?_
            refine jf_take rfl rfl (by decide) rfl (y_pick_true rfl rfl) ?_
            refine jf_take rfl rfl (by decide) rfl (y_move rfl) ?_
            refine jf_pcall (by intro _ h; first | exact h | exact h.pop | exact h.pop.pop | exact h.pop.pop.pop | exact h.pop.pop.pop.pop | exact h.pop.pop.pop.pop.pop | exact h.pop.pop.pop.pop.pop.pop) rfl rfl (by decide) rfl (goes_func rfl) (fun w1 hw1 => pcall hw1 (fixed_any w1)) ?_
            refine jf_take rfl rfl (by decide) rfl (y_pick_true rfl rfl) ?_
            refine jf_nil ?_
            refine jl_y rfl (by decide) rfl (y_assign rfl) ?_
            refine jl_nil ?_
            refine jq_then ?_
            refine jc_ret ?_
            refine jq_ret1 rfl rfl ?_
            exact fun _ hw => ⟨rfl, hw.ch⟩
          · skip
            refine jf_y (by intro _ h; first | exact h | exact h.pop | exact h.pop.pop | exact h.pop.pop.pop | exact h.pop.pop.pop.pop | exact h.pop.pop.pop.pop.pop | exact h.pop.pop.pop.pop.pop.pop) rfl rfl (by decide) rfl (y_str_own rfl (by first | exact mem0 | exact mem1 | exact mem2 | exact mem3 | exact mem4 | exact mem5) (by repeat constructor)) ?_
            refine jf_take rfl rfl (by decide) rfl (y_concat rfl rfl (by simp only [ByteArray.size_append, strOfNums_size, List.length_cons, List.length_nil]; omega)) ?_
            refine jf_pcall (by intro _ h; first | exact h | exact h.pop | exact h.pop.pop | exact h.pop.pop.pop | exact h.pop.pop.pop.pop | exact h.pop.pop.pop.pop.pop | exact h.pop.pop.pop.pop.pop.pop) rfl rfl (by decide) rfl (goes_func rfl) (fun w1 hw1 => pcall hw1 (tag_any _ none 0 [] w1 (by omega) (by decide) (by simp) (strs_none _))) ?_
            refine jf_pcall (by intro _ h; first | exact h | exact h.pop | exact h.pop.pop | exact h.pop.pop.pop | exact h.pop.pop.pop.pop | exact h.pop.pop.pop.pop.pop | exact h.pop.pop.pop.pop.pop.pop) rfl rfl (by decide) rfl (goes_func rfl) (fun w1 hw1 => pcall hw1 (short_any _ w1 (by first | omega | (simp only [ByteArray.size_append, strOfNums_size, List.length_cons, List.length_nil]; omega)))) ?_
            refine jf_take rfl rfl (by decide) rfl (y_seql rfl rfl) ?_
            refine jf_as (u := .bool true) (congrArg (fun b => Value.bool b) (decide_eq_true (rfl))) ?_
            refine jf_take rfl rfl (by decide) rfl (y_pick_true rfl rfl) ?_
            refine jf_take rfl rfl (by decide) rfl (y_move rfl) ?_
            refine jf_pcall (by intro _ h; first | exact h | exact h.pop | exact h.pop.pop | exact h.pop.pop.pop | exact h.pop.pop.pop.pop | exact h.pop.pop.pop.pop.pop | exact h.pop.pop.pop.pop.pop.pop) rfl rfl (by decide) rfl (goes_func rfl) (fun w1 hw1 => pcall hw1 (fixed_any w1)) ?_
            refine jf_take rfl rfl (by decide) rfl (y_pick_true rfl rfl) ?_
            refine jf_nil ?_
            refine jl_y rfl (by decide) rfl (y_assign rfl) ?_
            refine jl_nil ?_
            refine jq_then ?_
            refine jc_ret ?_
            refine jq_ret1 rfl rfl ?_
            exact fun _ hw => ⟨rfl, hw.ch⟩
  · skip
    refine jf_m (by intros; rename_i h; first | exact h | exact h.pop | exact h.pop.pop | exact h.pop.pop.pop | exact h.pop.pop.pop.pop | exact h.pop.pop.pop.pop.pop | exact h.pop.pop.pop.pop.pop.pop) rfl rfl (by decide) rfl (m_buildSlice (by decide) (Built.cell rfl rfl rfl (by repeat constructor) (Built.cell rfl rfl rfl (by repeat constructor) Built.nil))) (fun b58 => ?_)
    refine jf_fork ?_ ?_
    · skip
      refine jf_m (by intros; rename_i h; first | exact h | exact h.pop | exact h.pop.pop | exact h.pop.pop.pop | exact h.pop.pop.pop.pop | exact h.pop.pop.pop.pop.pop | exact h.pop.pop.pop.pop.pop.pop) rfl rfl (by decide) rfl (m_buildSlice (by decide) (Built.cell rfl rfl rfl (by repeat constructor) (Built.cell rfl rfl rfl (by repeat constructor) Built.nil))) (fun b52 => ?_)
      refine jf_fork ?_ ?_
      · skip
        refine jf_pcall (by intro _ h; first | exact h | exact h.pop | exact h.pop.pop | exact h.pop.pop.pop | exact h.pop.pop.pop.pop | exact h.pop.pop.pop.pop.pop | exact h.pop.pop.pop.pop.pop.pop) rfl rfl (by decide) rfl (goes_func rfl) (fun w1 hw1 => pcall hw1 (tag_any _ (some ⟨b52, 0, none⟩) 2 [cutS a 200, cutS b 200] w1 (by omega) (by simp) (by intro p hp; simp only [List.mem_cons, List.not_mem_nil, or_false] at hp; rcases hp with rfl | rfl <;> omega) (by first | exact Strs.of_row (hw1.get mem0) | exact Strs.of_row (hw1.get mem1)))) ?_
        refine jf_y (by intro _ h; first | exact h | exact h.pop | exact h.pop.pop | exact h.pop.pop.pop | exact h.pop.pop.pop.pop | exact h.pop.pop.pop.pop.pop | exact h.pop.pop.pop.pop.pop.pop) rfl rfl (by decide) rfl (y_str_own rfl (by first | exact mem0 | exact mem1 | exact mem2 | exact mem3 | exact mem4 | exact mem5) (by repeat constructor)) ?_
        refine jf_take rfl rfl (by decide) rfl (y_concat rfl rfl (by simp only [ByteArray.size_append, strOfNums_size, List.length_cons, List.length_nil]; omega)) ?_
        refine jf_take rfl rfl (by decide) rfl (y_concat rfl rfl (by simp only [ByteArray.size_append, strOfNums_size, List.length_cons, List.length_nil]; omega)) ?_
        refine jf_as (u := .string (tagPre (cutS word 200) [cutS a 200, cutS b 200])) (congrArg Value.string (parts_order2 _ _ _ (by omega))) ?_
        refine jf_pcall (by intro _ h; first | exact h | exact h.pop | exact h.pop.pop | exact h.pop.pop.pop | exact h.pop.pop.pop.pop | exact h.pop.pop.pop.pop.pop | exact h.pop.pop.pop.pop.pop.pop) rfl rfl (by decide) rfl (goes_func rfl) (fun w1 hw1 => pcall hw1 (short_any _ w1 (by first | omega | (simp only [ByteArray.size_append, strOfNums_size, List.length_cons, List.length_nil]; omega)))) ?_
        refine jf_take rfl rfl (by decide) rfl (y_seql rfl rfl) ?_
        refine jf_as (u := .bool true) (congrArg (fun b => Value.bool b) (decide_eq_true (rfl))) ?_
        refine jf_take rfl rfl (by decide) rfl (y_pick_true rfl rfl) ?_
        refine jf_take rfl rfl (by decide) rfl (y_move rfl) ?_
        refine jf_take rfl rfl (by decide) rfl (y_move rfl) ?_
        refine jf_take rfl rfl (by decide) rfl (y_move rfl) ?_
        refine jf_take rfl rfl (by decide) rfl (y_len_str rfl) ?_
        refine jf_take rfl rfl (by decide) rfl (y_conv_u8 rfl) ?_
        refine jf_take rfl rfl (by decide) rfl (y_move rfl) ?_
        refine jf_fork ?_ ?_
        · skip
          refine jf_pcall (by intro _ h; first | exact h | exact h.pop | exact h.pop.pop | exact h.pop.pop.pop | exact h.pop.pop.pop.pop | exact h.pop.pop.pop.pop.pop | exact h.pop.pop.pop.pop.pop.pop) rfl rfl (by decide) rfl (goes_func rfl) (fun w1 hw1 => pcall hw1 (tag_any _ none 0 [] w1 (by omega) (by decide) (by simp) (strs_none _))) ?_
          refine jf_m (by intros; rename_i h; first | exact h | exact h.pop | exact h.pop.pop | exact h.pop.pop.pop | exact h.pop.pop.pop.pop | exact h.pop.pop.pop.pop.pop | exact h.pop.pop.pop.pop.pop.pop) rfl rfl (by decide) rfl (m_buildSlice (by decide) (Built.cell rfl rfl rfl (by repeat constructor) Built.nil)) (fun b72 => ?_)
          refine jf_y (by intro _ h; first | exact h | exact h.pop | exact h.pop.pop | exact h.pop.pop.pop | exact h.pop.pop.pop.pop | exact h.pop.pop.pop.pop.pop | exact h.pop.pop.pop.pop.pop.pop) rfl rfl (by decide) rfl (y_str_own rfl (by first | exact mem0 | exact mem1 | exact mem2 | exact mem3 | exact mem4 | exact mem5) (by repeat constructor)) ?_
          refine jf_take rfl rfl (by decide) rfl (y_concat rfl rfl (by simp only [ByteArray.size_append, strOfNums_size, List.length_cons, List.length_nil]; omega)) ?_
          refine jf_pcall (by intro _ h; first | exact h | exact h.pop | exact h.pop.pop | exact h.pop.pop.pop | exact h.pop.pop.pop.pop | exact h.pop.pop.pop.pop.pop | exact h.pop.pop.pop.pop.pop.pop) rfl rfl (by decide) rfl (goes_func rfl) (fun w1 hw1 => pcall hw1 (short_any _ w1 (by first | omega | (simp only [ByteArray.size_append, strOfNums_size, List.length_cons, List.length_nil]; omega)))) ?_
          refine jf_take rfl rfl (by decide) rfl (y_seql rfl rfl) ?_
          refine jf_as (u := .bool true) (congrArg (fun b => Value.bool b) (decide_eq_true (rfl))) ?_
          refine jf_take rfl rfl (by decide) rfl (y_pick_true rfl rfl) ?_
          refine jf_take rfl rfl (by decide) rfl (y_move rfl) ?_
          refine jf_pcall (by intro _ h; first | exact h | exact h.pop | exact h.pop.pop | exact h.pop.pop.pop | exact h.pop.pop.pop.pop | exact h.pop.pop.pop.pop.pop | exact h.pop.pop.pop.pop.pop.pop) rfl rfl (by decide) rfl (goes_func rfl) (fun w1 hw1 => pcall hw1 (fixed_any w1)) ?_
          refine jf_take rfl rfl (by decide) rfl (y_pick_true rfl rfl) ?_
          refine jf_nil ?_
          refine jl_y rfl (by decide) rfl (y_assign rfl) ?_
          refine jl_nil ?_
          refine jq_then ?_
          refine jc_ret ?_
          refine jq_ret1 rfl rfl ?_
          exact fun _ hw => ⟨rfl, hw.ch⟩
        · skip
          refine jf_m (by intros; rename_i h; first | exact h | exact h.pop | exact h.pop.pop | exact h.pop.pop.pop | exact h.pop.pop.pop.pop | exact h.pop.pop.pop.pop.pop | exact h.pop.pop.pop.pop.pop.pop) rfl rfl (by decide) rfl (m_buildSlice (by decide) (Built.cell rfl rfl rfl (by repeat constructor) Built.nil)) (fun b72 => ?_)
          refine jf_fork ?_ ?_
          · skip
            refine jf_pcall (by intro _ h; first | exact h | exact h.pop | exact h.pop.pop | exact h.pop.pop.pop | exact h.pop.pop.pop.pop | exact h.pop.pop.pop.pop.pop | exact h.pop.pop.pop.pop.pop.pop) rfl rfl (by decide) rfl (goes_func rfl) (fun w1 hw1 => pcall hw1 (tag_any _ none 0 [] w1 (by omega) (by decide) (by simp) (strs_none _))) ?_
            refine jf_y (by intro _ h; first | exact h | exact h.pop | exact h.pop.pop | exact h.pop.pop.pop | exact h.pop.pop.pop.pop | exact h.pop.pop.pop.pop.pop | exact h.pop.pop.pop.pop.pop.pop) rfl rfl (by decide) rfl (y_str_own rfl (by first | exact mem0 | exact mem1 | exact mem2 | exact mem3 | exact mem4 | exact mem5) (by repeat constructor)) ?_
            refine jf_take rfl rfl (by decide) rfl (y_concat rfl rfl (by simp only [ByteArray.size_append, strOfNums_size, List.length_cons, List.length_nil]; omega)) ?_
            refine jf_pcall (by intro _ h; first | exact h | exact h.pop | exact h.pop.pop | exact h.pop.pop.pop | exact h.pop.pop.pop.pop | exact h.pop.pop.pop.pop.pop | exact h.pop.pop.pop.pop.pop.pop) rfl rfl (by decide) rfl (goes_func rfl) (fun w1 hw1 => pcall hw1 (short_any _ w1 (by first | omega | (simp only [ByteArray.size_append, strOfNums_size, List.length_cons, List.length_nil]; omega)))) ?_
            refine jf_take rfl rfl (by decide) rfl (y_seql rfl rfl) ?_
            refine jf_as (u := .bool true) (congrArg (fun b => Value.bool b) (decide_eq_true (rfl))) ?_
            refine jf_take rfl rfl (by decide) rfl (y_pick_true rfl rfl) ?_
            refine jf_take rfl rfl (by decide) rfl (y_move rfl) ?_
            refine jf_pcall (by intro _ h; first | exact h | exact h.pop | exact h.pop.pop | exact h.pop.pop.pop | exact h.pop.pop.pop.pop | exact h.pop.pop.pop.pop.pop | exact h.pop.pop.pop.pop.pop.pop) rfl rfl (by decide) rfl (goes_func rfl) (fun w1 hw1 => pcall hw1 (fixed_any w1)) ?_
            refine jf_take rfl rfl (by decide) rfl (y_pick_true rfl rfl) ?_
            refine jf_nil ?_
            refine jl_y rfl (by decide) rfl (y_assign rfl) ?_
            refine jl_nil ?_
            refine jq_then ?_
            refine jc_ret ?_
            refine jq_ret1 rfl rfl ?_
            exact fun _ hw => ⟨rfl, hw.ch⟩
          · skip
            refine jf_y (by intro _ h; first | exact h | exact h.pop | exact h.pop.pop | exact h.pop.pop.pop | exact h.pop.pop.pop.pop | exact h.pop.pop.pop.pop.pop | exact h.pop.pop.pop.pop.pop.pop) rfl rfl (by decide) rfl (y_str_own rfl (by first | exact mem0 | exact mem1 | exact mem2 | exact mem3 | exact mem4 | exact mem5) (by repeat constructor)) ?_
            refine jf_take rfl rfl (by decide) rfl (y_concat rfl rfl (by simp only [ByteArray.size_append, strOfNums_size, List.length_cons, List.length_nil]; omega)) ?_
            refine jf_pcall (by intro _ h; first | exact h | exact h.pop | exact h.pop.pop | exact h.pop.pop.pop | exact h.pop.pop.pop.pop | exact h.pop.pop.pop.pop.pop | exact h.pop.pop.pop.pop.pop.pop) rfl rfl (by decide) rfl (goes_func rfl) (fun w1 hw1 => pcall hw1 (tag_any _ none 0 [] w1 (by omega) (by decide) (by simp) (strs_none _))) ?_
            refine jf_pcall (by intro _ h; first | exact h | exact h.pop | exact h.pop.pop | exact h.pop.pop.pop | exact h.pop.pop.pop.pop | exact h.pop.pop.pop.pop.pop | exact h.pop.pop.pop.pop.pop.pop) rfl rfl (by decide) rfl (goes_func rfl) (fun w1 hw1 => pcall hw1 (short_any _ w1 (by first | omega | (simp only [ByteArray.size_append, strOfNums_size, List.length_cons, List.length_nil]; omega)))) ?_
            refine jf_take rfl rfl (by decide) rfl (y_seql rfl rfl) ?_
            refine jf_as (u := .bool true) (congrArg (fun b => Value.bool b) (decide_eq_true (rfl))) ?_
            refine jf_take rfl rfl (by decide) rfl (y_pick_true rfl rfl) ?_
            refine jf_take rfl rfl (by decide) rfl (y_move rfl) ?_
            refine jf_pcall (by intro _ h; first | exact h | exact h.pop | exact h.pop.pop | exact h.pop.pop.pop | exact h.pop.pop.pop.pop | exact h.pop.pop.pop.pop.pop | exact h.pop.pop.pop.pop.pop.pop) rfl rfl (by decide) rfl (goes_func rfl) (fun w1 hw1 => pcall hw1 (fixed_any w1)) ?_
            refine jf_take rfl rfl (by decide) rfl (y_pick_true rfl rfl) ?_
            refine jf_nil ?_
            refine jl_y rfl (by decide) rfl (y_assign rfl) ?_
            refine jl_nil ?_
            refine jq_then ?_
            refine jc_ret ?_
            refine jq_ret1 rfl rfl ?_
            exact fun _ hw => ⟨rfl, hw.ch⟩
      · skip
        refine jf_y (by intro _ h; first | exact h | exact h.pop | exact h.pop.pop | exact h.pop.pop.pop | exact h.pop.pop.pop.pop | exact h.pop.pop.pop.pop.pop | exact h.pop.pop.pop.pop.pop.pop) rfl rfl (by decide) rfl (y_str_own rfl (by first | exact mem0 | exact mem1 | exact mem2 | exact mem3 | exact mem4 | exact mem5) (by repeat constructor)) ?_
        refine jf_take rfl rfl (by decide) rfl (y_concat rfl rfl (by simp only [ByteArray.size_append, strOfNums_size, List.length_cons, List.length_nil]; omega)) ?_
        refine jf_take rfl rfl (by decide) rfl (y_concat rfl rfl (by simp only [ByteArray.size_append, strOfNums_size, List.length_cons, List.length_nil]; omega)) ?_
        refine jf_as (u := .string (tagPre (cutS word 200) [cutS a 200, cutS b 200])) (congrArg Value.string (parts_order2 _ _ _ (by omega))) ?_
        refine jf_pcall (by intro _ h; first | exact h | exact h.pop | exact h.pop.pop | exact h.pop.pop.pop | exact h.pop.pop.pop.pop | exact h.pop.pop.pop.pop.pop | exact h.pop.pop.pop.pop.pop.pop) rfl rfl (by decide) rfl (goes_func rfl) (fun w1 hw1 => pcall hw1 (tag_any _ (some ⟨b52, 0, none⟩) 2 [cutS a 200, cutS b 200] w1 (by omega) (by simp) (by intro p hp; simp only [List.mem_cons, List.not_mem_nil, or_false] at hp; rcases hp with rfl | rfl <;> omega) (by first | exact Strs.of_row (hw1.get mem0) | exact Strs.of_row (hw1.get mem1)))) ?_
        refine jf_pcall (by intro _ h; first | exact h | exact h.pop | exact h.pop.pop | exact h.pop.pop.pop | exact h.pop.pop.pop.pop | exact h.pop.pop.pop.pop.pop | exact h.pop.pop.pop.pop.pop.pop) rfl rfl (by decide) rfl (goes_func rfl) (fun w1 hw1 => pcall hw1 (short_any _ w1 (by first | omega | (simp only [ByteArray.size_append, strOfNums_size, List.length_cons, List.length_nil]; omega)))) ?_
        refine jf_take rfl rfl (by decide) rfl (y_seql rfl rfl) ?_
        refine jf_as (u := .bool true) (congrArg (fun b => Value.bool b) (decide_eq_true (rfl))) ?_
        refine jf_take rfl rfl (by decide) rfl (y_pick_true rfl rfl) ?_
        refine jf_take rfl rfl (by decide) rfl (y_move rfl) ?_
        refine jf_take rfl rfl (by decide) rfl (y_move rfl) ?_
        refine jf_take rfl rfl (by decide) rfl (y_move rfl) ?_
        refine jf_take rfl rfl (by decide) rfl (y_len_str rfl) ?_
        refine jf_take rfl rfl (by decide) rfl (y_conv_u8 rfl) ?_
        refine jf_take rfl rfl (by decide) rfl (y_move rfl) ?_
        refine jf_fork ?_ ?_
        · skip
          refine jf_pcall (by intro _ h; first | exact h | exact h.pop | exact h.pop.pop | exact h.pop.pop.pop | exact h.pop.pop.pop.pop | exact h.pop.pop.pop.pop.pop | exact h.pop.pop.pop.pop.pop.pop) rfl rfl (by decide) rfl (goes_func rfl) (fun w1 hw1 => pcall hw1 (tag_any _ none 0 [] w1 (by omega) (by decide) (by simp) (strs_none _))) ?_
          refine jf_m (by intros; rename_i h; first | exact h | exact h.pop | exact h.pop.pop | exact h.pop.pop.pop | exact h.pop.pop.pop.pop | exact h.pop.pop.pop.pop.pop | exact h.pop.pop.pop.pop.pop.pop) rfl rfl (by decide) rfl (m_buildSlice (by decide) (Built.cell rfl rfl rfl (by repeat constructor) Built.nil)) (fun b72 => ?_)
          refine jf_y (by intro _ h; first | exact h | exact h.pop | exact h.pop.pop | exact h.pop.pop.pop | exact h.pop.pop.pop.pop | exact h.pop.pop.pop.pop.pop | exact h.pop.pop.pop.pop.pop.pop) rfl rfl (by decide) rfl (y_str_own rfl (by first | exact mem0 | exact mem1 | exact mem2 | exact mem3 | exact mem4 | exact mem5) (by repeat constructor)) ?_
          refine jf_take rfl rfl (by decide) rfl (y_concat rfl rfl (by simp only [ByteArray.size_append, strOfNums_size, List.length_cons, List.length_nil]; omega)) ?_
          refine jf_pcall (by intro _ h; first | exact h | exact h.pop | exact h.pop.pop | exact h.pop.pop.pop | exact h.pop.pop.pop.pop | exact h.pop.pop.pop.pop.pop | exact h.pop.pop.pop.pop.pop.pop) rfl rfl (by decide) rfl (goes_func rfl) (fun w1 hw1 => pcall hw1 (short_any _ w1 (by first | omega | (simp only [ByteArray.size_append, strOfNums_size, List.length_cons, List.length_nil]; omega)))) ?_
          refine jf_take rfl rfl (by decide) rfl (y_seql rfl rfl) ?_
          refine jf_as (u := .bool true) (congrArg (fun b => Value.bool b) (decide_eq_true (rfl))) ?_
          refine jf_take rfl rfl (by decide) rfl (y_pick_true rfl rfl) ?_
          refine jf_take rfl rfl (by decide) rfl (y_move rfl) ?_
          refine jf_pcall (by intro _ h; first | exact h | exact h.pop | exact h.pop.pop | exact h.pop.pop.pop | exact h.pop.pop.pop.pop | exact h.pop.pop.pop.pop.pop | exact h.pop.pop.pop.pop.pop.pop) rfl rfl (by decide) rfl (goes_func rfl) (fun w1 hw1 => pcall hw1 (fixed_any w1)) ?_
          refine jf_take rfl rfl (by decide) rfl (y_pick_true rfl rfl) ?_
          refine jf_nil ?_
          refine jl_y rfl (by decide) rfl (y_assign rfl) ?_
          refine jl_nil ?_
          refine jq_then ?_
          refine jc_ret ?_
          refine jq_ret1 rfl rfl ?_
          exact fun _ hw => ⟨rfl, hw.ch⟩
        · skip
          refine jf_m (by intros; rename_i h; first | exact h | exact h.pop | exact h.pop.pop | exact h.pop.pop.pop | exact h.pop.pop.pop.pop | exact h.pop.pop.pop.pop.pop | exact h.pop.pop.pop.pop.pop.pop) rfl rfl (by decide) rfl (m_buildSlice (by decide) (Built.cell rfl rfl rfl (by repeat constructor) Built.nil)) (fun b72 => ?_)
          refine jf_fork ?_ ?_
          · skip
            refine jf_pcall (by intro _ h; first | exact h | exact h.pop | exact h.pop.pop | exact h.pop.pop.pop | exact h.pop.pop.pop.pop | exact h.pop.pop.pop.pop.pop | exact h.pop.pop.pop.pop.pop.pop) rfl rfl (by decide) rfl (goes_func rfl) (fun w1 hw1 => pcall hw1 (tag_any _ none 0 [] w1 (by omega) (by decide) (by simp) (strs_none _))) ?_
            refine jf_y (by intro _ h; first | exact h | exact h.pop | exact h.pop.pop | exact h.pop.pop.pop | exact h.pop.pop.pop.pop | exact h.pop.pop.pop.pop.pop | exact h.pop.pop.pop.pop.pop.pop) rfl rfl (by decide) rfl (y_str_own rfl (by first | exact mem0 | exact mem1 | exact mem2 | exact mem3 | exact mem4 | exact mem5) (by repeat constructor)) ?_
            refine jf_take rfl rfl (by decide) rfl (y_concat rfl rfl (by simp only [ByteArray.size_append, strOfNums_size, List.length_cons, List.length_nil]; omega)) ?_
            refine jf_pcall (by intro _ h; first | exact h | exact h.pop | exact h.pop.pop | exact h.pop.pop.pop | exact h.pop.pop.pop.pop | exact h.pop.pop.pop.pop.pop | exact h.pop.pop.pop.pop.pop.pop) rfl rfl (by decide) rfl (goes_func rfl) (fun w1 hw1 => pcall hw1 (short_any _ w1 (by first | omega | (simp only [ByteArray.size_append, strOfNums_size, List.length_cons, List.length_nil]; omega)))) ?_
            refine jf_take rfl rfl (by decide) rfl (y_seql rfl rfl) ?_
            refine jf_as (u := .bool true) (congrArg (fun b => Value.bool b) (decide_eq_true (rfl))) ?_
            refine jf_take rfl rfl (by decide) rfl (y_pick_true rfl rfl) ?_
            refine jf_take rfl rfl (by decide) rfl (y_move rfl) ?_
            refine jf_pcall (by intro _ h; first | exact h | exact h.pop | exact h.pop.pop | exact h.pop.pop.pop | exact h.pop.pop.pop.pop | exact h.pop.pop.pop.pop.pop | exact h.pop.pop.pop.pop.pop.pop) rfl rfl (by decide) rfl (goes_func rfl) (fun w1 hw1 => pcall hw1 (fixed_any w1)) ?_
            refine jf_take rfl rfl (by decide) rfl (y_pick_true rfl rfl) ?_
            refine jf_nil ?_
            refine jl_y rfl (by decide) rfl (y_assign rfl) ?_
            refine jl_nil ?_
            refine jq_then ?_
            refine jc_ret ?_
            refine jq_ret1 rfl rfl ?_
            exact fun _ hw => ⟨rfl, hw.ch⟩
          · skip
            refine jf_y (by intro _ h; first | exact h | exact h.pop | exact h.pop.pop | exact h.pop.pop.pop | exact h.pop.pop.pop.pop | exact h.pop.pop.pop.pop.pop | exact h.pop.pop.pop.pop.pop.pop) rfl rfl (by decide) rfl (y_str_own rfl (by first | exact mem0 | exact mem1 | exact mem2 | exact mem3 | exact mem4 | exact mem5) (by repeat constructor)) ?_
            refine jf_take rfl rfl (by decide) rfl (y_concat rfl rfl (by simp only [ByteArray.size_append, strOfNums_size, List.length_cons, List.length_nil]; omega)) ?_
            refine jf_pcall (by intro _ h; first | exact h | exact h.pop | exact h.pop.pop | exact h.pop.pop.pop | exact h.pop.pop.pop.pop | exact h.pop.pop.pop.pop.pop | exact h.pop.pop.pop.pop.pop.pop) rfl rfl (by decide) rfl (goes_func rfl) (fun w1 hw1 => pcall hw1 (tag_any _ none 0 [] w1 (by omega) (by decide) (by simp) (strs_none _))) ?_
            refine jf_pcall (by intro _ h; first | exact h | exact h.pop | exact h.pop.pop | exact h.pop.pop.pop | exact h.pop.pop.pop.pop | exact h.pop.pop.pop.pop.pop | exact h.pop.pop.pop.pop.pop.pop) rfl rfl (by decide) rfl (goes_func rfl) (fun w1 hw1 => pcall hw1 (short_any _ w1 (by first | omega | (simp only [ByteArray.size_append, strOfNums_size, List.length_cons, List.length_nil]; omega)))) ?_
            refine jf_take rfl rfl (by decide) rfl (y_seql rfl rfl) ?_
            refine jf_as (u := .bool true) (congrArg (fun b => Value.bool b) (decide_eq_true (rfl))) ?_
            refine jf_take rfl rfl (by decide) rfl (y_pick_true rfl rfl) ?_
            refine jf_take rfl rfl (by decide) rfl (y_move rfl) ?_
            refine jf_pcall (by intro _ h; first | exact h | exact h.pop | exact h.pop.pop | exact h.pop.pop.pop | exact h.pop.pop.pop.pop | exact h.pop.pop.pop.pop.pop | exact h.pop.pop.pop.pop.pop.pop) rfl rfl (by decide) rfl (goes_func rfl) (fun w1 hw1 => pcall hw1 (fixed_any w1)) ?_
            refine jf_take rfl rfl (by decide) rfl (y_pick_true rfl rfl) ?_
            refine jf_nil ?_
            refine jl_y rfl (by decide) rfl (y_assign rfl) ?_
            refine jl_nil ?_
            refine jq_then ?_
            refine jc_ret ?_
            refine jq_ret1 rfl rfl ?_
            exact fun _ hw => ⟨rfl, hw.ch⟩
    · skip
      refine jf_y (by intro _ h; first | exact h | exact h.pop | exact h.pop.pop | exact h.pop.pop.pop | exact h.pop.pop.pop.pop | exact h.pop.pop.pop.pop.pop | exact h.pop.pop.pop.pop.pop.pop) rfl rfl (by decide) rfl (y_str_own rfl (by first | exact mem0 | exact mem1 | exact mem2 | exact mem3 | exact mem4 | exact mem5) (by repeat constructor)) ?_
      refine jf_take rfl rfl (by decide) rfl (y_concat rfl rfl (by simp only [ByteArray.size_append, strOfNums_size, List.length_cons, List.length_nil]; omega)) ?_
      refine jf_take rfl rfl (by decide) rfl (y_concat rfl rfl (by simp only [ByteArray.size_append, strOfNums_size, List.length_cons, List.length_nil]; omega)) ?_
      refine jf_as (u := .string (tagPre (cutS word 200) [cutS a 200, cutS b 200])) (congrArg Value.string (parts_order2 _ _ _ (by omega))) ?_
      refine jf_m (by intros; rename_i h; first | exact h | exact h.pop | exact h.pop.pop | exact h.pop.pop.pop | exact h.pop.pop.pop.pop | exact h.pop.pop.pop.pop.pop | exact h.pop.pop.pop.pop.pop.pop) rfl rfl (by decide) rfl (m_buildSlice (by decide) (Built.cell rfl rfl rfl (by repeat constructor) (Built.cell rfl rfl rfl (by repeat constructor) Built.nil))) (fun b52 => ?_)
      refine jf_pcall (by intro _ h; first | exact h | exact h.pop | exact h.pop.pop | exact h.pop.pop.pop | exact h.pop.pop.pop.pop | exact h.pop.pop.pop.pop.pop | exact h.pop.pop.pop.pop.pop.pop) rfl rfl (by decide) rfl (goes_func rfl) (fun w1 hw1 => pcall hw1 (tag_any _ (some ⟨b52, 0, none⟩) 2 [cutS a 200, cutS b 200] w1 (by omega) (by simp) (by intro p hp; simp only [List.mem_cons, List.not_mem_nil, or_false] at hp; rcases hp with rfl | rfl <;> omega) (by first | exact Strs.of_row (hw1.get mem0) | exact Strs.of_row (hw1.get mem1)))) ?_
      refine jf_pcall (by intro _ h; first | exact h | exact h.pop | exact h.pop.pop | exact h.pop.pop.pop | exact h.pop.pop.pop.pop | exact h.pop.pop.pop.pop.pop | exact h.pop.pop.pop.pop.pop.pop) rfl rfl (by decide) rfl (goes_func rfl) (fun w1 hw1 => pcall hw1 (short_any _ w1 (by first | omega | (simp only [ByteArray.size_append, strOfNums_size, List.length_cons, List.length_nil]; omega)))) ?_
      refine jf_take rfl rfl (by decide) rfl (y_seql rfl rfl) ?_
      refine jf_as (u := .bool true) (congrArg (fun b => Value.bool b) (decide_eq_true (rfl))) ?_
      refine jf_take rfl rfl (by decide) rfl (y_pick_true rfl rfl) ?_
      refine jf_take rfl rfl (by decide) rfl (y_move rfl) ?_
      refine jf_take rfl rfl (by decide) rfl (y_move rfl) ?_
      refine jf_take rfl rfl (by decide) rfl (y_move rfl) ?_
      refine jf_take rfl rfl (by decide) rfl (y_len_str rfl) ?_
      refine jf_take rfl rfl (by decide) rfl (y_conv_u8 rfl) ?_
      refine jf_take rfl rfl (by decide) rfl (y_move rfl) ?_
      refine jf_fork ?_ ?_
      · skip
        refine jf_pcall (by intro _ h; first | exact h | exact h.pop | exact h.pop.pop | exact h.pop.pop.pop | exact h.pop.pop.pop.pop | exact h.pop.pop.pop.pop.pop | exact h.pop.pop.pop.pop.pop.pop) rfl rfl (by decide) rfl (goes_func rfl) (fun w1 hw1 => pcall hw1 (tag_any _ none 0 [] w1 (by omega) (by decide) (by simp) (strs_none _))) ?_
        refine jf_m (by intros; rename_i h; first | exact h | exact h.pop | exact h.pop.pop | exact h.pop.pop.pop | exact h.pop.pop.pop.pop | exact h.pop.pop.pop.pop.pop | exact h.pop.pop.pop.pop.pop.pop) rfl rfl (by decide) rfl (m_buildSlice (by decide) (Built.cell rfl rfl rfl (by repeat constructor) Built.nil)) (fun b72 => ?_)
        refine jf_y (by intro _ h; first | exact h | exact h.pop | exact h.pop.pop | exact h.pop.pop.pop | exact h.pop.pop.pop.pop | exact h.pop.pop.pop.pop.pop | exact h.pop.pop.pop.pop.pop.pop) rfl rfl (by decide) rfl (y_str_own rfl (by first | exact mem0 | exact mem1 | exact mem2 | exact mem3 | exact mem4 | exact mem5) (by repeat constructor)) ?_
        refine jf_take rfl rfl (by decide) rfl (y_concat rfl rfl (by simp only [ByteArray.size_append, strOfNums_size, List.length_cons, List.length_nil]; omega)) ?_
        refine jf_pcall (by intro _ h; first | exact h | exact h.pop | exact h.pop.pop | exact h.pop.pop.pop | exact h.pop.pop.pop.pop | exact h.pop.pop.pop.pop.pop | exact h.pop.pop.pop.pop.pop.pop) rfl rfl (by decide) rfl (goes_func rfl) (fun w1 hw1 => pcall hw1 (short_any _ w1 (by first | omega | (simp only [ByteArray.size_append, strOfNums_size, List.length_cons, List.length_nil]; omega)))) ?_
        refine jf_take rfl rfl (by decide) rfl (y_seql rfl rfl) ?_
        refine jf_as (u := .bool true) (congrArg (fun b => Value.bool b) (decide_eq_true (rfl))) ?_
        refine jf_take rfl rfl (by decide) rfl (y_pick_true rfl rfl) ?_
        refine jf_take rfl rfl (by decide) rfl (y_move rfl) ?_
        refine jf_pcall (by intro _ h; first | exact h | exact h.pop | exact h.pop.pop | exact h.pop.pop.pop | exact h.pop.pop.pop.pop | exact h.pop.pop.pop.pop.pop | exact h.pop.pop.pop.pop.pop.pop) rfl rfl (by decide) rfl (goes_func rfl) (fun w1 hw1 => pcall hw1 (fixed_any w1)) ?_
        refine jf_take rfl rfl (by decide) rfl (y_pick_true rfl rfl) ?_
        refine jf_nil ?_
        refine jl_y rfl (by decide) rfl (y_assign rfl) ?_
        refine jl_nil ?_
        refine jq_then ?_
        refine jc_ret ?_
        refine jq_ret1 rfl rfl ?_
        exact fun _ hw => ⟨rfl, hw.ch⟩
      · skip
        refine jf_m (by intros; rename_i h; first | exact h | exact h.pop | exact h.pop.pop | exact h.pop.pop.pop | exact h.pop.pop.pop.pop | exact h.pop.pop.pop.pop.pop | exact h.pop.pop.pop.pop.pop.pop) rfl rfl (by decide) rfl (m_buildSlice (by decide) (Built.cell rfl rfl rfl (by repeat constructor) Built.nil)) (fun b72 => ?_)
        refine jf_fork ?_ ?_
        · skip
          refine jf_pcall (by intro _ h; first | exact h | exact h.pop | exact h.pop.pop | exact h.pop.pop.pop | exact h.pop.pop.pop.pop | exact h.pop.pop.pop.pop.pop | exact h.pop.pop.pop.pop.pop.pop) rfl rfl (by decide) rfl (goes_func rfl) (fun w1 hw1 => pcall hw1 (tag_any _ none 0 [] w1 (by omega) (by decide) (by simp) (strs_none _))) ?_
          refine jf_y (by intro _ h; first | exact h | exact h.pop | exact h.pop.pop | exact h.pop.pop.pop | exact h.pop.pop.pop.pop | exact h.pop.pop.pop.pop.pop | exact h.pop.pop.pop.pop.pop.pop) rfl rfl (by decide) rfl (y_str_own rfl (by first | exact mem0 | exact mem1 | exact mem2 | exact mem3 | exact mem4 | exact mem5) (by repeat constructor)) ?_
          refine jf_take rfl rfl (by decide) rfl (y_concat rfl rfl (by simp only [ByteArray.size_append, strOfNums_size, List.length_cons, List.length_nil]; omega)) ?_
          refine jf_pcall (by intro _ h; first | exact h | exact h.pop | exact h.pop.pop | exact h.pop.pop.pop | exact h.pop.pop.pop.pop | exact h.pop.pop.pop.pop.pop | exact h.pop.pop.pop.pop.pop.pop) rfl rfl (by decide) rfl (goes_func rfl) (fun w1 hw1 => pcall hw1 (short_any _ w1 (by first | omega | (simp only [ByteArray.size_append, strOfNums_size, List.length_cons, List.length_nil]; omega)))) ?_
          refine jf_take rfl rfl (by decide) rfl (y_seql rfl rfl) ?_
          refine jf_as (u := .bool true) (congrArg (fun b => Value.bool b) (decide_eq_true (rfl))) ?_
          refine jf_take rfl rfl (by decide) rfl (y_pick_true rfl rfl) ?_
          refine jf_take rfl rfl (by decide) rfl (y_move rfl) ?_
          refine jf_pcall (by intro _ h; first | exact h | exact h.pop | exact h.pop.pop | exact h.pop.pop.pop | exact h.pop.pop.pop.pop | exact h.pop.pop.pop.pop.pop | exact h.pop.pop.pop.pop.pop.pop) rfl rfl (by decide) rfl (goes_func rfl) (fun w1 hw1 => pcall hw1 (fixed_any w1)) ?_
          refine jf_take rfl rfl (by decide) rfl (y_pick_true rfl rfl) ?_
          refine jf_nil ?_
          refine jl_y rfl (by decide) rfl (y_assign rfl) ?_
          refine jl_nil ?_
          refine jq_then ?_
          refine jc_ret ?_
          refine jq_ret1 rfl rfl ?_
          exact fun _ hw => ⟨rfl, hw.ch⟩
        · skip
          refine jf_y (by intro _ h; first | exact h | exact h.pop | exact h.pop.pop | exact h.pop.pop.pop | exact h.pop.pop.pop.pop | exact h.pop.pop.pop.pop.pop | exact h.pop.pop.pop.pop.pop.pop) rfl rfl (by decide) rfl (y_str_own rfl (by first | exact mem0 | exact mem1 | exact mem2 | exact mem3 | exact mem4 | exact mem5) (by repeat constructor)) ?_
          refine jf_take rfl rfl (by decide) rfl (y_concat rfl rfl (by simp only [ByteArray.size_append, strOfNums_size, List.length_cons, List.length_nil]; omega)) ?_
          refine jf_pcall (by intro _ h; first | exact h | exact h.pop | exact h.pop.pop | exact h.pop.pop.pop | exact h.pop.pop.pop.pop | exact h.pop.pop.pop.pop.pop | exact h.pop.pop.pop.pop.pop.pop) rfl rfl (by decide) rfl (goes_func rfl) (fun w1 hw1 => pcall hw1 (tag_any _ none 0 [] w1 (by omega) (by decide) (by simp) (strs_none _))) ?_
          refine jf_pcall (by intro _ h; first | exact h | exact h.pop | exact h.pop.pop | exact h.pop.pop.pop | exact h.pop.pop.pop.pop | exact h.pop.pop.pop.pop.pop | exact h.pop.pop.pop.pop.pop.pop) rfl rfl (by decide) rfl (goes_func rfl) (fun w1 hw1 => pcall hw1 (short_any _ w1 (by first | omega | (simp only [ByteArray.size_append, strOfNums_size, List.length_cons, List.length_nil]; omega)))) ?_
          refine jf_take rfl rfl (by decide) rfl (y_seql rfl rfl) ?_
          refine jf_as (u := .bool true) (congrArg (fun b => Value.bool b) (decide_eq_true (rfl))) ?_
          refine jf_take rfl rfl (by decide) rfl (y_pick_true rfl rfl) ?_
          refine jf_take rfl rfl (by decide) rfl (y_move rfl) ?_
          refine jf_pcall (by intro _ h; first | exact h | exact h.pop | exact h.pop.pop | exact h.pop.pop.pop | exact h.pop.pop.pop.pop | exact h.pop.pop.pop.pop.pop | exact h.pop.pop.pop.pop.pop.pop) rfl rfl (by decide) rfl (goes_func rfl) (fun w1 hw1 => pcall hw1 (fixed_any w1)) ?_
          refine jf_take rfl rfl (by decide) rfl (y_pick_true rfl rfl) ?_
          refine jf_nil ?_
          refine jl_y rfl (by decide) rfl (y_assign rfl) ?_
          refine jl_nil ?_
          refine jq_then ?_
          refine jc_ret ?_
          refine jq_ret1 rfl rfl ?_
          exact fun _ hw => ⟨rfl, hw.ch⟩

end Go.Proofs.Ytfghgngobbhiiaa