/- The walks of package block, part two: a block is read; what the laws of layer 10 cut. Written by program (walk.py) out of a table of contracts and invariants. -/
import Derived.Test.YtomhcibbalhgkaaBk
import Derived.Test.YtomhcibbalhgkaaJu
namespace Go.Proofs.Ytomhcibbalhgkaa
open Go.RowKit
set_option maxRecDepth 100000
set_option maxHeartbeats 2000000
set_option linter.unusedVariables false
set_option linter.unusedSimpArgs false
theorem low_right {t : Trx} (h : txRight t = true) : Low t := by
  obtain ⟨_, _, h3, h4, _, h6⟩ := txRight_iff.1 h
  have := (pfRight_iff.1 h6).2.2.2
  exact ⟨by omega, by omega, by omega⟩
theorem bkL_ok (S : ByteArray) : ∀ n, okR S (rdMany (rdBl S) (bkE S) n).2
  | 0 => bkE_ok S
  | n + 1 => blS_ok (bkL_ok S n)
theorem bkL_size (S : ByteArray) (x : RS) : ∀ n, ∀ v ∈ (rdMany (rdBl S) x n).1, v.size ≤ 1000000000 := fun n => rdMany_all (P := fun v : ByteArray => v.size ≤ 1000000000) (fun y => blV_small S y 4096) x n
theorem strs_get {ps : List ByteArray} {j : Nat} (h : j < ps.length) : (ps.map Value.string)[j]? = some (.string (ps[j])) := by
  rw [List.getElem?_map, List.getElem?_eq_getElem h]; rfl
theorem bkN_range (S : ByteArray) : 0 ≤ bkN S ∧ bkN S ≤ 255 := byV_range S (bkC S)
section
variable {S : ByteArray}
theorem bkErr_3 (h : S ≠ ⟨#[]⟩ ∧ byV S (0, 0) ≠ 66) : bkErr S = 4 := by unfold bkErr; rw [if_pos h]
theorem bkErr_16 (hb : ¬ (S ≠ ⟨#[]⟩ ∧ byV S (0, 0) ≠ 66)) (h : (endE S (bkL S).2 ≠ 0 ∧ endE S (bkL S).2 ≠ 4) ∨ 8 < bkN S) : bkErr S = endE S (bkL S).2 ∧ endE S (bkL S).2 ≠ 0 := by
  refine ⟨by unfold bkErr; rw [if_neg hb, if_pos h], fun e => ?_⟩
  rcases h with c2 | c2
  · exact c2.1 e
  · have h2 := (bl_many (bkE_ok S) (bkK S) (end_back e).1).1
    unfold bkE at h2; rw [if_pos c2] at h2
    exact fl_back h2
theorem bkErr_22 (hb : ¬ (S ≠ ⟨#[]⟩ ∧ byV S (0, 0) ≠ 66)) (h : ¬ ((endE S (bkL S).2 ≠ 0 ∧ endE S (bkL S).2 ≠ 4) ∨ 8 < bkN S)) (hf : firstE (bkL S).1 ≠ 0) : bkErr S = firstE (bkL S).1 := by
  unfold bkErr; rw [if_neg hb, if_neg h, if_neg hf]
theorem bkErr_26 (hb : ¬ (S ≠ ⟨#[]⟩ ∧ byV S (0, 0) ≠ 66)) (h : ¬ ((endE S (bkL S).2 ≠ 0 ∧ endE S (bkL S).2 ≠ 4) ∨ 8 < bkN S)) (hf : firstE (bkL S).1 = 0) (h9 : 9223372036854775807 < nuV S (bkS S) ∨ (bkL S).2.1 < S.size ∨ bkRight (rdBk S) ≠ true) : bkErr S = 4 := by
  unfold bkErr; rw [if_neg hb, if_neg h, if_pos hf, if_pos h9]
theorem bkErr_27 (hb : ¬ (S ≠ ⟨#[]⟩ ∧ byV S (0, 0) ≠ 66)) (h : ¬ ((endE S (bkL S).2 ≠ 0 ∧ endE S (bkL S).2 ≠ 4) ∨ 8 < bkN S)) (hf : firstE (bkL S).1 = 0) (h9 : ¬ (9223372036854775807 < nuV S (bkS S) ∨ (bkL S).2.1 < S.size ∨ bkRight (rdBk S) ≠ true)) : bkErr S = 0 := by
  unfold bkErr; rw [if_neg hb, if_neg h, if_pos hf, if_neg h9]
theorem bkDec_bad (h : bkErr S ≠ 0) : bkDec S = bk0 := by unfold bkDec; rw [if_neg h]
theorem firstE_take : ∀ {l : List ByteArray} {j : Nat} (h : j < l.length), (∀ x ∈ l.take j, txErr x = 0) → txErr l[j] ≠ 0 → firstE l = txErr l[j]
  | [], _, h, _, _ => absurd h (by simp)
  | x :: l, 0, _, _, h2 => by
    have h3 : ¬ txErr x = 0 := h2
    show (if txErr x = 0 then firstE l else txErr x) = _
    rw [if_neg h3]; rfl
  | x :: l, j + 1, h, h1, h2 => by
    show (if txErr x = 0 then firstE l else txErr x) = _
    rw [if_pos (h1 x (.head _)), firstE_take (l := l) (j := j) (by simpa using h) (fun y hy => h1 y (.tail _ hy)) h2]; rfl
theorem firstE_all : ∀ {l : List ByteArray}, (∀ x ∈ l, txErr x = 0) → firstE l = 0
  | [], _ => rfl
  | x :: l, h => by
    show (if txErr x = 0 then firstE l else txErr x) = 0
    rw [if_pos (h x (.head _)), firstE_all fun y hy => h y (.tail _ hy)]
end
theorem txs_next {l : List Txq} {L : List ByteArray} {j : Nat} {q : Txq} (h : j < L.length) (e : txsQ l = (L.take j).map txDec) (hq : q.t = txDec L[j] := by rfl) : txsQ (l ++ [q]) = (L.take (j + 1)).map txDec := by
  have h1 : txsQ (l ++ [q]) = txsQ l ++ [q.t] := by simp
  rw [h1, List.take_succ_eq_append_getElem h, List.map_append, e, hq]; rfl
theorem err_next {L : List ByteArray} {j : Nat} (h : j < L.length) (e : ∀ x ∈ L.take j, txErr x = 0) (h2 : txErr L[j] = 0) : ∀ x ∈ L.take (j + 1), txErr x = 0 := by
  rw [List.take_succ_eq_append_getElem h]
  intro x hx
  rcases List.mem_append.1 hx with hx | hx
  · exact e x hx
  · rw [List.mem_singleton.1 hx]; exact h2
def bq0 : Blq := ⟨0, ⟨#[]⟩, [], none, 0⟩

theorem bkdec_any (S : ByteArray) (w : World) (hS : S.size ≤ 1000000000) :
  Calls Try.prog 8 #[.string S] w fun e w' => ∃ q : Blq, e = .returned (.tuple #[.agg (Blq.c q).toArray, .int .i64 (bkErr S)]) ∧ q.b = bkDec S ∧ Hp w [] (q.rows 41 45 75 113) w' := by
 have hnr := bkN_range S
 have hnv := nuV_range S (bkS S)
 have hkl := rdMany_length (rdBl S) (bkE S) (bkK S)
 have hkl2 : (bkL S).1.length = bkK S := hkl
 obtain ⟨ne, hne⟩ : ∃ ne : Int, (if 9223372036854775807 < nuV S (bkS S) then (2 : Int) else 0) = ne := ⟨_, rfl⟩
 have hn2 : (9223372036854775807 < nuV S (bkS S) ∧ ne = 2) ∨ (¬ 9223372036854775807 < nuV S (bkS S) ∧ ne = 0) := by
  by_cases e : 9223372036854775807 < nuV S (bkS S)
  ·rw [if_pos e] at hne; omega
  ·rw [if_neg e] at hne; omega
 have hkk : ((bkK S : Nat) : Int) = min (bkN S) 8 := by unfold bkK; omega
 refine calls_of (n := 101) (E := [(0, .string S)]) (W := Hp w [] []) Try.func8 rfl rfl (Nat.le_of_ble_eq_true rfl) rfl (Hp.nil _ _) ?_
 refine jsr ?_
 refine jl_m rfl (by decide) rfl (m_alloc) (fun b2 => ?_)
 refine jz ?_
 refine jnt ?_
 refine jsr ?_
 refine jz ?_
 refine jl_fcall rfl (by decide) rfl (goes_func rfl) (fun w1 hw1 => cread_any S w1) (fun br => ?_)
 refine jz ?_
 refine jnt ?_
 refine jc_join ([(2, .pointer (some ⟨b2, 0, none⟩)), (3, .int .i64 0), (4, .pointer (some ⟨br, 0, none⟩))]) (W' := fun w' => ¬ (S ≠ ⟨#[]⟩ ∧ byV S (0, 0) ≠ 66) ∧ Hp w [] [.cells br [.string (S.extract (bkS S).1 S.size), .int .i64 (bkS S).2], .cells b2 [.int .i64 0, .string ⟨#[]⟩, .slice none 0 0]] w') ?_ ?_
 ·skip
  refine jc_and (fun hb => ?_)
  refine jsr ?_
  refine jz ?_
  refine juc (goes_func rfl) (fun w1 hw1 => cnum_any br S (bkS S) w1 hS (bkS_ok S) hw1) ?_
  refine jpc (goes_func rfl) (fun w1 hw1 => int_any (nuV S (bkS S)) w1 hnv) ?_
  refine jz ?_
  refine jz ?_
  refine jl_as (u := .int .i64 (intV (nuV S (bkS S)))) rfl ?_
  refine jz ?_
  refine jl_as (u := .int .i64 ne) (congrArg (Value.int .i64) hne) ?_
  refine jz ?_
  refine jz ?_
  refine jnt ?_
  refine jc_seq ?_
  refine jc_world (fun _ h => h.cast (H' := [.cells br [.string (S.extract (bkB S).1 S.size), .int .i64 (bkB S).2], .cells b2 [.int .i64 0, .string ⟨#[]⟩, .slice none 0 0]]) rfl) ?_
  refine jc_region ?_
  refine jz ?_
  refine jz ?_
  refine juc (goes_func rfl) (fun w1 hw1 => chash_any br S (bkB S) w1 hS (nuS_ok (bkS_ok S)) hw1) ?_
  refine jy (y_build (Built.cell rfl rfl rfl (by repeat constructor) (Built.cell rfl rfl rfl (by repeat constructor) Built.nil))) ?_
  refine jl_m rfl (by decide) rfl (m_alloc) (fun b7 => ?_)
  refine jst ?_
  refine jnt ?_
  refine jc_seq ?_
  refine jc_world (fun _ h => h.cast (H' := [.cells b7 [.int .i64 (intV (nuV S (bkS S))), .string (haV S (bkB S)), .slice none 0 0], .cells br [.string (S.extract (bkC S).1 S.size), .int .i64 (bkC S).2], .cells b2 [.int .i64 0, .string ⟨#[]⟩, .slice none 0 0]]) rfl) ?_
  refine jc_region ?_
  refine jz ?_
  refine jl_ucallH rfl (by decide) rfl (goes_func rfl) (by rfl) (fun w1 hw1 => cbyte_any br S (bkC S) w1 hS (haS_ok (nuS_ok (bkS_ok S))) (hw1.get mem1)) (by first | exact rep0 | exact rep1 | exact rep2 | exact rep3 | exact rep4 | exact rep5) ?_
  refine jl_as (u := .int .i64 (bkN S)) rfl ?_
  refine jz ?_
  refine jnt ?_
  refine jc_join ([(2, .pointer (some ⟨b2, 0, none⟩)), (3, .int .i64 0), (4, .pointer (some ⟨br, 0, none⟩)), (5, .int .i64 (intV (nuV S (bkS S)))), (6, .int .i64 ne), (7, .pointer (some ⟨b7, 0, none⟩)), (8, .int .i64 (bkN S))]) (W' := Hp w [] [.cells b7 [.int .i64 (intV (nuV S (bkS S))), .string (haV S (bkB S)), .slice none 0 0], .cells br [.string (S.extract (bkE S).1 S.size), .int .i64 (bkE S).2], .cells b2 [.int .i64 0, .string ⟨#[]⟩, .slice none 0 0]]) ?_ ?_
  ·skip
   refine jsr ?_
   refine jz ?_
   refine jnt ?_
   refine jc_seq ?_
   refine jsr ?_
   refine jz ?_
   refine jy (y_min rfl rfl) ?_
   refine jl_as (u := .int .i64 ((bkK S : Nat) : Int)) (congrArg (Value.int .i64) (by omega)) ?_
   refine jz ?_
   refine jnt ?_
   refine jc_block ?_
   refine jc_loop3 (fun (i : Nat) (al : Option Addr) (cl : Nat) => [(2, .pointer (some ⟨b2, 0, none⟩)), (3, .int .i64 0), (4, .pointer (some ⟨br, 0, none⟩)), (5, .int .i64 (intV (nuV S (bkS S)))), (6, .int .i64 ne), (7, .pointer (some ⟨b7, 0, none⟩)), (8, .int .i64 (bkN S)), (9, .slice al i cl), (42, .int .i64 ((bkK S : Nat) : Int)), (43, .int .i64 (i : Nat))]) (fun (i : Nat) (al : Option Addr) (cl : Nat) => fun w' => i ≤ bkK S ∧ Hp w [] [.row al i cl 9 1 (((rdMany (rdBl S) (bkE S) i).1).map Value.string), .cells b7 [.int .i64 (intV (nuV S (bkS S))), .string (haV S (bkB S)), .slice none 0 0], .cells br [.string (S.extract ((rdMany (rdBl S) (bkE S) i).2).1 S.size), .int .i64 ((rdMany (rdBl S) (bkE S) i).2).2], .cells b2 [.int .i64 0, .string ⟨#[]⟩, .slice none 0 0]] w') (fun (i : Nat) (al : Option Addr) (cl : Nat) => bkK S - i) 0 none 0 ?_ ?_ ?_
   ·exact ⟨rfl, rfl, rfl, rfl, rfl, rfl, rfl, rfl, rfl, rfl, trivial⟩
   ·exact fun _ h => ⟨by omega, h.nilrow 9 1⟩
   ·intro i al cl
    refine jc_and (fun hi => ?_)
    refine jsr ?_
    refine jy (y_lss rfl rfl) ?_
    refine jl_prop (fun h44 => ?_) (fun h44 => ?_)
    ·first
     | (exfalso; omega)
     | (
      refine jnt ?_
      refine jc_seq ?_
      refine jc_true rfl ?_
      refine jc_skip ?_
      refine jq_then ?_
      refine jc_seq ?_
      refine jc_block ?_
      refine jc_region ?_
      refine jz ?_
      refine jz ?_
      refine jl_ucallH rfl (by decide) rfl (goes_func rfl) (by rfl) (fun w1 hw1 => cblob_any br S (rdMany (rdBl S) (bkE S) i).2 4096 w1 hS (bkL_ok S i) (hw1.get mem2)) (by first | exact rep0 | exact rep1 | exact rep2 | exact rep3 | exact rep4 | exact rep5) ?_
      refine jl_m rfl (by decide) rfl (m_buildSlice (by decide) (Built.cell rfl rfl rfl (by repeat constructor) Built.nil)) (fun b48 => ?_)
      refine jl_m2 rfl (by decide) rfl (m_append rfl rfl (by first | exact del0 | exact del1 | exact del2 | exact del3 | exact del4) (by first | exact del0 | exact del1 | exact del2 | exact del3 | exact del4) rfl (by omega) (by omega)) (fun a49 c49 => ?_)
      refine jz ?_
      refine jl_nil ?_
      refine jq_block ?_
      refine jq_then ?_
      refine jc_region ?_
      refine jy (y_add_fits rfl rfl (by simp only [fits]; omega)) ?_
      refine jz ?_
      refine jl_nil ?_
      refine jq_round3 (i := i) (j := al) (l := cl) (i + 1) a49 c49 ?_ ?_ ?_
      ·omega
      ·exact ⟨rfl, rfl, rfl, rfl, rfl, rfl, rfl, rfl, rfl, lk_int rfl (by omega), trivial⟩
      ·exact fun _ h => ⟨by omega, h.cast (by rw [show (rdMany (rdBl S) (bkE S) (i + 1)) = ((rdMany (rdBl S) (bkE S) i).1 ++ [blV S (rdMany (rdBl S) (bkE S) i).2 4096], blS S (rdMany (rdBl S) (bkE S) i).2 4096) from rfl, List.map_append]; rfl)⟩
      )
    ·first
     | (exfalso; omega)
     | (
      refine jnt ?_
      refine jc_seq ?_
      refine jc_false rfl ?_
      refine jc_exit ?_
      refine jq_then_exit ?_
      refine jq_then_exit ?_
      refine jq_hit ?_
      refine jq_then ?_
      refine jc_join ([(2, .pointer (some ⟨b2, 0, none⟩)), (3, .int .i64 0), (4, .pointer (some ⟨br, 0, none⟩)), (5, .int .i64 (intV (nuV S (bkS S)))), (6, .int .i64 ne), (7, .pointer (some ⟨b7, 0, none⟩)), (8, .int .i64 (bkN S)), (9, .slice al (bkK S) cl)]) (W' := fun w' => ¬ ((endE S (bkL S).2 ≠ 0 ∧ endE S (bkL S).2 ≠ 4) ∨ 8 < bkN S) ∧ Hp w [] [.row al (bkK S) cl 9 1 (((bkL S).1).map Value.string), .cells b7 [.int .i64 (intV (nuV S (bkS S))), .string (haV S (bkB S)), .slice none 0 0], .cells br [.string (S.extract ((bkL S).2).1 S.size), .int .i64 ((bkL S).2).2], .cells b2 [.int .i64 0, .string ⟨#[]⟩, .slice none 0 0]] w') ?_ ?_
      ·skip
       refine jc_and (fun hc2 => ?_)
       refine jc_seq ?_
       refine jsr ?_
       refine jz ?_
       refine jy (y_len_slice rfl) ?_
       refine jz ?_
       refine jnt ?_
       refine jc_block ?_
       refine jc_loop4 (fun (j : Nat) (l : List Txq) (a7 : Option Addr) (c7 : Nat) => [(2, .pointer (some ⟨b2, 0, none⟩)), (3, .int .i64 0), (4, .pointer (some ⟨br, 0, none⟩)), (6, .int .i64 ne), (7, .pointer (some ⟨b7, 0, none⟩)), (65, .slice al (bkK S) cl), (66, .int .i64 ((bkK S : Nat) : Int)), (67, .int .i64 (j : Nat))]) (fun (j : Nat) (l : List Txq) (a7 : Option Addr) (c7 : Nat) => fun w' => (j ≤ bkK S ∧ txsQ l = ((bkL S).1.take j).map txDec ∧ (∀ x ∈ (bkL S).1.take j, txErr x = 0)) ∧ Hp w [] (.row a7 (l).length c7 41 6 ((l).flatMap Txq.c) :: .cells b7 [.int .i64 (intV (nuV S (bkS S))), .string (haV S (bkB S)), .slice a7 l.length c7] :: .row al (bkK S) cl 9 1 (((bkL S).1).map Value.string) :: .cells br [.string (S.extract ((bkL S).2).1 S.size), .int .i64 ((bkL S).2).2] :: .cells b2 [.int .i64 0, .string ⟨#[]⟩, .slice none 0 0] :: rowsQ 45 75 113 l) w') (fun (j : Nat) (l : List Txq) (a7 : Option Addr) (c7 : Nat) => bkK S - j) 0 [] none 0 ?_ ?_ ?_
       ·exact ⟨rfl, rfl, rfl, rfl, rfl, rfl, rfl, rfl, trivial⟩
       ·exact fun _ h => ⟨⟨by omega, rfl, fun x hx => by cases hx⟩, (h.nilrow 41 6).part (.cons del0 (.cons (by first | exact del0 | exact del1) (.cons (by first | exact del0 | exact del1) (.cons del0 (.cons del0 .nil)))))⟩
       ·intro j l a7 c7
        refine jc_and (fun hj => ?_)
        refine jsr ?_
        refine jy (y_lss rfl rfl) ?_
        refine jl_prop (fun h68 => ?_) (fun h68 => ?_)
        ·first
         | (exfalso; omega)
         | (
          have hlt : j < (bkL S).1.length := by have : (bkL S).1.length = bkK S := hkl; omega
          refine jl_pure (p := ∃ b, al = some ⟨b, 0, none⟩) (fun w h => row_some (h.get (A := .row al (bkK S) cl 9 1 (((bkL S).1).map Value.string)) mem2) (by omega)) (fun hb2 => ?_)
          obtain ⟨bs, rfl⟩ := hb2
          have hll8 : l.length = j := by have := congrArg List.length hj.2.1; rw [List.length_map, List.length_map, List.length_take] at this; omega
          have hxs := bkL_size S (bkE S) (bkK S) _ (List.getElem_mem hlt)
          refine jnt ?_
          refine jc_seq ?_
          refine jc_true rfl ?_
          refine jc_skip ?_
          refine jq_then ?_
          refine jc_seq ?_
          refine jc_block ?_
          refine jsr ?_
          refine jy (y_indexAddr_slice (off := j) rfl rfl (by omega) (by omega) (by omega)) ?_
          refine jy (y_load_row rfl mem2 (strs_get hlt)) ?_
          refine jz ?_
          refine jnt ?_
          refine jsr ?_
          refine jz ?_
          refine jl_gcall3 rfl (by decide) rfl (goes_func rfl) (fun w1 hw1 => codec_any ((bkL S).1[j]) w1 hxs) (fun pd => ?_)
          refine jz ?_
          refine jz ?_
          refine jz ?_
          refine jl_m rfl (by decide) rfl (m_alloc) (fun b13 => ?_)
          refine jst ?_
          refine jz ?_
          refine jnt ?_
          refine jc_seq ?_
          refine jsr ?_
          refine jz ?_
          refine jy (y_neq rfl rfl) ?_
          refine jl_prop (fun h77 => ?_) (fun h77 => ?_)
          ·first
           | (exfalso; omega)
           | (
            refine jnt ?_
            refine jc_true rfl ?_
            refine jc_seq ?_
            refine jc_world (fun _ h => (Hp.partA [_, _, _, _, _, _, _, _, _] [.cells b2 [.int .i64 0, .string ⟨#[]⟩, .slice none 0 0]] h (.cons (.tail (.tail (.tail (.tail (.tail (.tail (.tail (.tail .head)))))))) .nil) : Hp w [] (.cells b2 [.int .i64 0, .string ⟨#[]⟩, .slice none 0 0] :: rowsQ 45 75 113 l) _)) ?_
            refine jc_region ?_
            refine jy (y_build Built.nil) ?_
            refine jz ?_
            refine jst ?_
            refine jz ?_
            refine jnt ?_
            refine jc_ret ?_
            refine jq_then_ret ?_
            refine jq_block_ret ?_
            refine jq_then_ret ?_
            refine jq_then_ret ?_
            refine jq_block_ret ?_
            refine jq_then_ret ?_
            refine jq_res (.inl rfl) rfl (.cell rfl (by first | exact ld_agg (by first | exact mem0 | exact mem1 | exact mem2 | exact mem3 | exact mem4 | exact mem5) (by repeat constructor) | exact ld_agg (by first | exact mem0 | exact mem1 | exact mem2 | exact mem3 | exact mem4 | exact mem5) (by assumption)) (.tmp rfl .nil)) ?_
            exact fun _ hw => (by have ht := (bkErr_22 hb hc2 (by rw [firstE_take hlt hj.2.2 (by assumption)]; assumption)).trans (firstE_take hlt hj.2.2 (by assumption)); have hz : bkErr S ≠ 0 := (by rw [ht]; first | decide | assumption | omega); exact ⟨bq0, by rw [ht]; rfl, (bkDec_bad hz).symm, (Hp.of_ch hw.ch).nilrow 41 6⟩)
            )
          ·first
           | (exfalso; omega)
           | (
            refine jnt ?_
            refine jc_false rfl ?_
            refine jc_skip ?_
            refine jq_then ?_
            refine jc_world (fun _ h => (Hp.partA [_, _, _, _, _, _, _, _, _] [.cells b13 (Trx.c (txDec (bkL S).1[j]) pd.1.1 pd.1.2 pd.2.1.1 pd.2.1.2 pd.2.2.1 pd.2.2.2), .row a7 (l).length c7 41 6 ((l).flatMap Txq.c), .cells b7 [.int .i64 (intV (nuV S (bkS S))), .string (haV S (bkB S)), .slice a7 l.length c7], .row pd.1.1 (txDec (bkL S).1[j]).ins.length pd.1.2 45 4 ((txDec (bkL S).1[j]).ins.flatMap Inp.c), .row pd.2.1.1 (txDec (bkL S).1[j]).outs.length pd.2.1.2 75 9 ((txDec (bkL S).1[j]).outs.flatMap Oup.c), .row pd.2.2.1 (txDec (bkL S).1[j]).pf.wins.length pd.2.2.2 113 10 ((txDec (bkL S).1[j]).pf.wins.flatMap Wn.c), .row (some ⟨bs, 0, none⟩) (bkK S) cl 9 1 (((bkL S).1).map Value.string), .cells br [.string (S.extract ((bkL S).2).1 S.size), .int .i64 ((bkL S).2).2], .cells b2 [.int .i64 0, .string ⟨#[]⟩, .slice none 0 0]] h (.cons del0 (.cons del3 (.cons del3 (.cons del0 (.cons del0 (.cons del0 (.cons del0 (.cons del0 (.cons del0 .nil))))))))) : Hp w [] (.cells b13 (Trx.c (txDec (bkL S).1[j]) pd.1.1 pd.1.2 pd.2.1.1 pd.2.1.2 pd.2.2.1 pd.2.2.2) :: .row a7 (l).length c7 41 6 ((l).flatMap Txq.c) :: .cells b7 [.int .i64 (intV (nuV S (bkS S))), .string (haV S (bkB S)), .slice a7 l.length c7] :: .row pd.1.1 (txDec (bkL S).1[j]).ins.length pd.1.2 45 4 ((txDec (bkL S).1[j]).ins.flatMap Inp.c) :: .row pd.2.1.1 (txDec (bkL S).1[j]).outs.length pd.2.1.2 75 9 ((txDec (bkL S).1[j]).outs.flatMap Oup.c) :: .row pd.2.2.1 (txDec (bkL S).1[j]).pf.wins.length pd.2.2.2 113 10 ((txDec (bkL S).1[j]).pf.wins.flatMap Wn.c) :: .row (some ⟨bs, 0, none⟩) (bkK S) cl 9 1 (((bkL S).1).map Value.string) :: .cells br [.string (S.extract ((bkL S).2).1 S.size), .int .i64 ((bkL S).2).2] :: .cells b2 [.int .i64 0, .string ⟨#[]⟩, .slice none 0 0] :: rowsQ 45 75 113 l) _)) ?_
            refine jc_region ?_
            refine jz ?_
            refine jz ?_
            refine jz ?_
            refine jl_m rfl (by decide) rfl (m_buildSlice (size := 6) (by decide) (Built.agg rfl rfl rfl (by repeat constructor) Built.nil)) (fun b83 => ?_)
            refine jl_m2 rfl (by decide) rfl (m_append rfl rfl (by first | exact del0 | exact del1 | exact del2 | exact del3 | exact del4) (by first | exact del0 | exact del1 | exact del2 | exact del3 | exact del4) rfl (by omega) (by omega)) (fun a84 c84 => ?_)
            refine jz ?_
            refine jst ?_
            refine jl_nil ?_
            refine jq_block ?_
            refine jq_then ?_
            refine jc_region ?_
            refine jy (y_add_fits rfl rfl (by simp only [fits]; omega)) ?_
            refine jz ?_
            refine jl_nil ?_
            refine jq_round4 (i := j) (j := l) (l := a7) (m := c7) (j + 1) (l ++ [⟨txDec (bkL S).1[j], pd.1.1, pd.1.2, pd.2.1.1, pd.2.1.2, pd.2.2.1, pd.2.2.2⟩]) a84 c84 ?_ ?_ ?_
            ·omega
            ·exact ⟨rfl, rfl, rfl, rfl, rfl, rfl, rfl, lk_int rfl (by omega), trivial⟩
            ·exact fun _ h => ⟨⟨by omega, txs_next hlt hj.2.1, err_next hlt hj.2.2 (Decidable.not_not.1 h77)⟩, (Hp.snocQ (ti := 45) (to := 75) (tw := 113) (F := [.row a84 (l.length + 1) c84 41 6 (l.flatMap Txq.c ++ Txq.c ⟨txDec (bkL S).1[j], pd.1.1, pd.1.2, pd.2.1.1, pd.2.1.2, pd.2.2.1, pd.2.2.2⟩), .cells b7 [.int .i64 (intV (nuV S (bkS S))), .string (haV S (bkB S)), .slice a84 (l.length + 1) c84], .row (some ⟨bs, 0, none⟩) (bkK S) cl 9 1 (((bkL S).1).map Value.string), .cells br [.string (S.extract ((bkL S).2).1 S.size), .int .i64 ((bkL S).2).2], .cells b2 [.int .i64 0, .string ⟨#[]⟩, .slice none 0 0]]) ⟨txDec (bkL S).1[j], pd.1.1, pd.1.2, pd.2.1.1, pd.2.1.2, pd.2.2.1, pd.2.2.2⟩ (Hp.partA [_, _, _, _, _, _, _, _, _] [.row pd.1.1 (txDec (bkL S).1[j]).ins.length pd.1.2 45 4 ((txDec (bkL S).1[j]).ins.flatMap Inp.c), .row pd.2.1.1 (txDec (bkL S).1[j]).outs.length pd.2.1.2 75 9 ((txDec (bkL S).1[j]).outs.flatMap Oup.c), .row pd.2.2.1 (txDec (bkL S).1[j]).pf.wins.length pd.2.2.2 113 10 ((txDec (bkL S).1[j]).pf.wins.flatMap Wn.c), .row a84 (l.length + 1) c84 41 6 (l.flatMap Txq.c ++ Txq.c ⟨txDec (bkL S).1[j], pd.1.1, pd.1.2, pd.2.1.1, pd.2.1.2, pd.2.2.1, pd.2.2.2⟩), .cells b7 [.int .i64 (intV (nuV S (bkS S))), .string (haV S (bkB S)), .slice a84 (l.length + 1) c84], .row (some ⟨bs, 0, none⟩) (bkK S) cl 9 1 (((bkL S).1).map Value.string), .cells br [.string (S.extract ((bkL S).2).1 S.size), .int .i64 ((bkL S).2).2], .cells b2 [.int .i64 0, .string ⟨#[]⟩, .slice none 0 0]] h (.cons del3 (.cons del3 (.cons del3 (.cons del0 (.cons del1 (.cons del1 (.cons del1 (.cons del1 .nil)))))))))).cast (by rw [List.length_append, List.flatMap_append]; simp)⟩
            )
          )
        ·first
         | (exfalso; omega)
         | (
          refine jnt ?_
          refine jc_seq ?_
          refine jc_false rfl ?_
          refine jc_exit ?_
          refine jq_then_exit ?_
          refine jq_then_exit ?_
          refine jq_hit ?_
          refine jq_then ?_
          refine jc_seq ?_
          refine jc_seq ?_
          have hje : j = bkK S := by omega
          rw [List.take_of_length_le (by omega)] at hj
          have hq : (⟨(intV (nuV S (bkS S))), (haV S (bkB S)), l, a7, c7⟩ : Blq).b = rdBk S := congrArg (Blk.mk (intV (nuV S (bkS S))) (haV S (bkB S))) hj.2.1
          have hll : l.length ≤ 1000000 := by have := congrArg List.length hj.2.1; rw [List.length_map, List.length_map] at this; omega
          have hlow : ∀ x ∈ l, Low x.t := fun x hx => by
           have hm : x.t ∈ (bkL S).1.map txDec := hj.2.1 ▸ List.mem_map.2 ⟨x, hx, rfl⟩
           obtain ⟨y, hy, e⟩ := List.mem_map.1 hm
           rw [← e]; exact low_right (enc_dec (hj.2.2 y hy)).1
          have hf0 := firstE_all hj.2.2
          refine jc_region ?_
          refine jz ?_
          refine jy (y_neq rfl rfl) ?_
          refine jl_prop (fun h88 => ?_) (fun h88 => ?_)
          ·first
           | (exfalso; omega)
           | (
            refine jz ?_
            refine jsk ?_
            refine jsk ?_
            refine jsk ?_
            refine jy (y_pick_true rfl rfl) ?_
            refine jz ?_
            refine jsk ?_
            refine jsk ?_
            refine jsk ?_
            refine jy (y_pick_true rfl rfl) ?_
            refine jnt ?_
            refine jc_true rfl ?_
            refine jsr ?_
            refine jy (y_build Built.nil) ?_
            refine jst ?_
            refine jz ?_
            refine jnt ?_
            refine jc_ret ?_
            refine jq_then_ret ?_
            refine jq_res (.inl rfl) rfl (.cell rfl (by first | exact ld_agg (by first | exact mem0 | exact mem1 | exact mem2 | exact mem3 | exact mem4 | exact mem5) (by repeat constructor) | exact ld_agg (by first | exact mem0 | exact mem1 | exact mem2 | exact mem3 | exact mem4 | exact mem5) (by assumption)) (.tmp rfl .nil)) ?_
            exact fun _ hw => (by have ht := bkErr_26 hb hc2 hf0 (by first | exact .inl (by omega) | exact .inr (.inl (by omega)) | exact .inr (.inr (by rw [← hq]; simp_all))); have hz : bkErr S ≠ 0 := (by rw [ht]; first | decide | assumption | omega); exact ⟨bq0, by rw [ht]; rfl, (bkDec_bad hz).symm, (Hp.of_ch hw.ch).nilrow 41 6⟩)
            )
          ·first
           | (exfalso; omega)
           | (
            refine jz ?_
            refine jz ?_
            refine jpc (goes_func rfl) (fun w1 hw1 => cleft3_any br S (bkL S).2 w1 (bkL_ok S (bkK S)) (CellAt.of_cells (hw1.get (A := .cells br [.string (S.extract ((bkL S).2).1 S.size), .int .i64 ((bkL S).2).2]) mem3) rfl)) ?_
            refine jy (y_gtr rfl rfl) ?_
            refine jl_prop (fun h92 => ?_) (fun h92 => ?_)
            ·first
             | (exfalso; omega)
             | (
              refine jy (y_pick_false rfl rfl) ?_
              refine jz ?_
              refine jsk ?_
              refine jsk ?_
              refine jsk ?_
              refine jy (y_pick_true rfl rfl) ?_
              refine jnt ?_
              refine jc_true rfl ?_
              refine jsr ?_
              refine jy (y_build Built.nil) ?_
              refine jst ?_
              refine jz ?_
              refine jnt ?_
              refine jc_ret ?_
              refine jq_then_ret ?_
              refine jq_res (.inl rfl) rfl (.cell rfl (by first | exact ld_agg (by first | exact mem0 | exact mem1 | exact mem2 | exact mem3 | exact mem4 | exact mem5) (by repeat constructor) | exact ld_agg (by first | exact mem0 | exact mem1 | exact mem2 | exact mem3 | exact mem4 | exact mem5) (by assumption)) (.tmp rfl .nil)) ?_
              exact fun _ hw => (by have ht := bkErr_26 hb hc2 hf0 (by first | exact .inl (by omega) | exact .inr (.inl (by omega)) | exact .inr (.inr (by rw [← hq]; simp_all))); have hz : bkErr S ≠ 0 := (by rw [ht]; first | decide | assumption | omega); exact ⟨bq0, by rw [ht]; rfl, (bkDec_bad hz).symm, (Hp.of_ch hw.ch).nilrow 41 6⟩)
              )
            ·first
             | (exfalso; omega)
             | (
              refine jy (y_pick_false rfl rfl) ?_
              refine jz ?_
              refine jz ?_
              refine jpc (goes_func rfl) (fun w1 hw1 => bkright_any (⟨(intV (nuV S (bkS S))), (haV S (bkB S)), l, a7, c7⟩ : Blq) w1 hll (TxsAt.of_own (n := l.length) (ti := 45) (to := 75) (tw := 113) hw1 mem0 rfl (fun A hA => (.tail _ (.tail _ (.tail _ (.tail _ (.tail _ hA))))))) hlow) ?_
              refine jl_bool (fun h96 => ?_) (fun h96 => ?_)
              ·skip
               refine jz ?_
               refine jy (y_pick_false rfl rfl) ?_
               refine jnt ?_
               refine jc_false rfl ?_
               refine jc_skip ?_
               refine jq_then ?_
               refine jsr ?_
               refine jz ?_
               refine jst ?_
               refine jz ?_
               refine jnt ?_
               refine jc_ret ?_
               refine jq_res (.inl rfl) rfl (.cell rfl (by first | exact ld_agg (by first | exact mem0 | exact mem1 | exact mem2 | exact mem3 | exact mem4 | exact mem5) (by repeat constructor) | exact ld_agg (by first | exact mem0 | exact mem1 | exact mem2 | exact mem3 | exact mem4 | exact mem5) (by assumption)) (.tmp rfl .nil)) ?_
               exact fun _ hw => (by have ht := bkErr_27 (S := S) hb hc2 hf0 (by rintro (q | q | q); (first | omega); (first | omega); exact q (by rw [← hq]; simp_all)); exact ⟨(⟨(intV (nuV S (bkS S))), (haV S (bkB S)), l, a7, c7⟩ : Blq), by rw [ht]; rfl, by unfold bkDec; rw [if_pos ht]; exact hq, (Hp.partA [_, _, _, _, _] [.row a7 (l).length c7 41 6 ((l).flatMap Txq.c)] hw (.cons del0 .nil) : Hp w [] (.row a7 (l).length c7 41 6 ((l).flatMap Txq.c) :: rowsQ 45 75 113 l) _)⟩)
              ·skip
               refine jz ?_
               refine jy (y_pick_false rfl rfl) ?_
               refine jnt ?_
               refine jc_true rfl ?_
               refine jsr ?_
               refine jy (y_build Built.nil) ?_
               refine jst ?_
               refine jz ?_
               refine jnt ?_
               refine jc_ret ?_
               refine jq_then_ret ?_
               refine jq_res (.inl rfl) rfl (.cell rfl (by first | exact ld_agg (by first | exact mem0 | exact mem1 | exact mem2 | exact mem3 | exact mem4 | exact mem5) (by repeat constructor) | exact ld_agg (by first | exact mem0 | exact mem1 | exact mem2 | exact mem3 | exact mem4 | exact mem5) (by assumption)) (.tmp rfl .nil)) ?_
               exact fun _ hw => (by have ht := bkErr_26 hb hc2 hf0 (by first | exact .inl (by omega) | exact .inr (.inl (by omega)) | exact .inr (.inr (by rw [← hq]; simp_all))); have hz : bkErr S ≠ 0 := (by rw [ht]; first | decide | assumption | omega); exact ⟨bq0, by rw [ht]; rfl, (bkDec_bad hz).symm, (Hp.of_ch hw.ch).nilrow 41 6⟩)
              )
            )
          )
      ·skip
       refine jc_seq ?_
       have hie : i = bkK S := by omega
       subst hie
       refine jc_world (fun _ h => h.cast (H' := [.row al (bkK S) cl 9 1 (((bkL S).1).map Value.string), .cells b7 [.int .i64 (intV (nuV S (bkS S))), .string (haV S (bkB S)), .slice none 0 0], .cells br [.string (S.extract ((bkL S).2).1 S.size), .int .i64 ((bkL S).2).2], .cells b2 [.int .i64 0, .string ⟨#[]⟩, .slice none 0 0]]) rfl) ?_
       refine jc_region ?_
       refine jz ?_
       refine jpc (goes_func rfl) (fun w1 hw1 => cend_any br S (bkL S).2 w1 (bkL_ok S (bkK S)) (CellAt.of_cells (hw1.get (A := .cells br [.string (S.extract ((bkL S).2).1 S.size), .int .i64 ((bkL S).2).2]) mem2) rfl) (CellAt.of_cells (hw1.get (A := .cells br [.string (S.extract ((bkL S).2).1 S.size), .int .i64 ((bkL S).2).2]) mem2) rfl)) ?_
       refine jz ?_
       refine jnt ?_
       refine jsr ?_
       refine jz ?_
       refine jy (y_neq rfl rfl) ?_
       refine jl_prop (fun h54 => ?_) (fun h54 => ?_)
       ·first
        | (exfalso; omega)
        | (
         refine jz ?_
         refine jz ?_
         refine jy (y_neq rfl rfl) ?_
         refine jl_prop (fun h57 => ?_) (fun h57 => ?_)
         ·first
          | (exfalso; omega)
          | (
           refine jy (y_pick_true rfl rfl) ?_
           refine jz ?_
           refine jsk ?_
           refine jsk ?_
           refine jy (y_pick_true rfl rfl) ?_
           refine jnt ?_
           refine jc_true rfl ?_
           refine jsr ?_
           refine jy (y_build Built.nil) ?_
           refine jz ?_
           refine jst ?_
           refine jz ?_
           refine jnt ?_
           refine jc_ret ?_
           refine jq_then_ret ?_
           refine jq_res (.inl rfl) rfl (.cell rfl (by first | exact ld_agg (by first | exact mem0 | exact mem1 | exact mem2 | exact mem3 | exact mem4 | exact mem5) (by repeat constructor) | exact ld_agg (by first | exact mem0 | exact mem1 | exact mem2 | exact mem3 | exact mem4 | exact mem5) (by assumption)) (.tmp rfl .nil)) ?_
           exact fun _ hw => (by have ht := (bkErr_16 hb (by omega)).1; have hz : bkErr S ≠ 0 := (by rw [ht]; first | exact (bkErr_16 hb (by omega)).2 | decide | assumption | omega); exact ⟨bq0, by rw [ht]; rfl, (bkDec_bad hz).symm, (Hp.of_ch hw.ch).nilrow 41 6⟩)
           )
         ·first
          | (exfalso; omega)
          | (
           refine jy (y_pick_true rfl rfl) ?_
           refine jz ?_
           refine jz ?_
           refine jy (y_gtr rfl rfl) ?_
           refine jl_prop (fun h61 => ?_) (fun h61 => ?_)
           ·first
            | (exfalso; omega)
            | (
             refine jy (y_pick_false rfl rfl) ?_
             refine jnt ?_
             refine jc_true rfl ?_
             refine jsr ?_
             refine jy (y_build Built.nil) ?_
             refine jz ?_
             refine jst ?_
             refine jz ?_
             refine jnt ?_
             refine jc_ret ?_
             refine jq_then_ret ?_
             refine jq_res (.inl rfl) rfl (.cell rfl (by first | exact ld_agg (by first | exact mem0 | exact mem1 | exact mem2 | exact mem3 | exact mem4 | exact mem5) (by repeat constructor) | exact ld_agg (by first | exact mem0 | exact mem1 | exact mem2 | exact mem3 | exact mem4 | exact mem5) (by assumption)) (.tmp rfl .nil)) ?_
             exact fun _ hw => (by have ht := (bkErr_16 hb (by omega)).1; have hz : bkErr S ≠ 0 := (by rw [ht]; first | exact (bkErr_16 hb (by omega)).2 | decide | assumption | omega); exact ⟨bq0, by rw [ht]; rfl, (bkDec_bad hz).symm, (Hp.of_ch hw.ch).nilrow 41 6⟩)
             )
           ·first
            | (exfalso; omega)
            | (
             refine jy (y_pick_false rfl rfl) ?_
             refine jnt ?_
             refine jc_false rfl ?_
             refine jc_skip ?_
             refine jq_join ?_ ?_
             ·exact ⟨rfl, rfl, rfl, rfl, rfl, rfl, rfl, rfl, trivial⟩
             ·exact fun _ h => ⟨by omega, h⟩
             )
           )
         )
       ·first
        | (exfalso; omega)
        | (
         refine jz ?_
         refine jsk ?_
         refine jsk ?_
         refine jy (y_pick_false rfl rfl) ?_
         refine jz ?_
         refine jz ?_
         refine jy (y_gtr rfl rfl) ?_
         refine jl_prop (fun h61 => ?_) (fun h61 => ?_)
         ·first
          | (exfalso; omega)
          | (
           refine jy (y_pick_false rfl rfl) ?_
           refine jnt ?_
           refine jc_true rfl ?_
           refine jsr ?_
           refine jy (y_build Built.nil) ?_
           refine jz ?_
           refine jst ?_
           refine jz ?_
           refine jnt ?_
           refine jc_ret ?_
           refine jq_then_ret ?_
           refine jq_res (.inl rfl) rfl (.cell rfl (by first | exact ld_agg (by first | exact mem0 | exact mem1 | exact mem2 | exact mem3 | exact mem4 | exact mem5) (by repeat constructor) | exact ld_agg (by first | exact mem0 | exact mem1 | exact mem2 | exact mem3 | exact mem4 | exact mem5) (by assumption)) (.tmp rfl .nil)) ?_
           exact fun _ hw => (by have ht := (bkErr_16 hb (by omega)).1; have hz : bkErr S ≠ 0 := (by rw [ht]; first | exact (bkErr_16 hb (by omega)).2 | decide | assumption | omega); exact ⟨bq0, by rw [ht]; rfl, (bkDec_bad hz).symm, (Hp.of_ch hw.ch).nilrow 41 6⟩)
           )
         ·first
          | (exfalso; omega)
          | (
           refine jy (y_pick_false rfl rfl) ?_
           refine jnt ?_
           refine jc_false rfl ?_
           refine jc_skip ?_
           refine jq_join ?_ ?_
           ·exact ⟨rfl, rfl, rfl, rfl, rfl, rfl, rfl, rfl, trivial⟩
           ·exact fun _ h => ⟨by omega, h⟩
           )
         )
      )
  ·skip
   refine jc_seq ?_
   refine jc_world (fun _ h => h.cast (H' := [.cells b7 [.int .i64 (intV (nuV S (bkS S))), .string (haV S (bkB S)), .slice none 0 0], .cells br [.string (S.extract (bkD S).1 S.size), .int .i64 (bkD S).2], .cells b2 [.int .i64 0, .string ⟨#[]⟩, .slice none 0 0]]) rfl) ?_
   refine jc_region ?_
   refine jz ?_
   refine jy (y_gtr rfl rfl) ?_
   refine jl_prop (fun h38 => ?_) (fun h38 => ?_)
   ·first
    | (exfalso; omega)
    | (
     refine jnt ?_
     refine jc_true rfl ?_
     refine jc_region ?_
     refine jz ?_
     refine jl_ucallH rfl (by decide) rfl (goes_func rfl) (by rfl) (fun w1 hw1 => cfail_any br _ _ 4 w1 (hw1.get mem1)) (by first | exact rep0 | exact rep1 | exact rep2 | exact rep3 | exact rep4 | exact rep5) ?_
     refine jl_nil ?_
     refine jq_join ?_ ?_
     ·exact ⟨rfl, rfl, rfl, rfl, rfl, rfl, rfl, trivial⟩
     ·first | exact fun _ h => h.cast (by unfold bkE; rw [if_pos (by omega)]; rfl) | exact fun _ h => h.cast (by unfold bkE; rw [if_neg (by omega)])
     )
   ·first
    | (exfalso; omega)
    | (
     refine jnt ?_
     refine jc_false rfl ?_
     refine jc_skip ?_
     refine jq_join ?_ ?_
     ·exact ⟨rfl, rfl, rfl, rfl, rfl, rfl, rfl, trivial⟩
     ·first | exact fun _ h => h.cast (by unfold bkE; rw [if_pos (by omega)]; rfl) | exact fun _ h => h.cast (by unfold bkE; rw [if_neg (by omega)])
     )
 ·skip
  refine jc_seq ?_
  refine jc_world (fun _ h => h.cast (H' := [.cells br [.string (S.extract (r00).1 S.size), .int .i64 (r00).2], .cells b2 [.int .i64 0, .string ⟨#[]⟩, .slice none 0 0]]) (by rw [ext_all])) ?_
  refine jc_region ?_
  refine jz ?_
  refine jy (y_sneq rfl rfl) ?_
  refine jl_bool (fun h18 => ?_) (fun h18 => ?_)
  ·skip
   refine jz ?_
   refine jz ?_
   refine juc (goes_func rfl) (fun w1 hw1 => cbyte_any br S r00 w1 hS (r00_ok S) hw1) ?_
   refine jy (y_neq rfl rfl) ?_
   refine jl_prop (fun h22 => ?_) (fun h22 => ?_)
   ·first
    | (exfalso; omega)
    | (
     refine jy (y_pick_true rfl rfl) ?_
     refine jnt ?_
     refine jc_true rfl ?_
     refine jsr ?_
     refine jy (y_build Built.nil) ?_
     refine jst ?_
     refine jz ?_
     refine jnt ?_
     refine jc_ret ?_
     refine jq_then_ret ?_
     refine jq_res (.inl rfl) rfl (.cell rfl (by first | exact ld_agg (by first | exact mem0 | exact mem1 | exact mem2 | exact mem3 | exact mem4 | exact mem5) (by repeat constructor) | exact ld_agg (by first | exact mem0 | exact mem1 | exact mem2 | exact mem3 | exact mem4 | exact mem5) (by assumption)) (.tmp rfl .nil)) ?_
     exact fun _ hw => (by have ht := bkErr_3 (S := S) ⟨by simpa using h18, by assumption⟩; have hz : bkErr S ≠ 0 := (by rw [ht]; first | decide | assumption | omega); exact ⟨bq0, by rw [ht]; rfl, (bkDec_bad hz).symm, (Hp.of_ch hw.ch).nilrow 41 6⟩)
     )
   ·first
    | (exfalso; omega)
    | (
     refine jy (y_pick_true rfl rfl) ?_
     refine jnt ?_
     refine jc_false rfl ?_
     refine jc_skip ?_
     refine jq_join ?_ ?_
     ·exact ⟨rfl, rfl, rfl, trivial⟩
     ·first | exact fun _ h => ⟨fun e => absurd e.2 (by assumption), h.cast (by unfold bkS; rw [if_neg (by simpa using h18)])⟩ | exact fun _ h => ⟨fun e => e.1 (by simpa using h18), h.cast (by unfold bkS; rw [if_pos (by simpa using h18)])⟩
     )
  ·skip
   refine jz ?_
   refine jsk ?_
   refine jsk ?_
   refine jsk ?_
   refine jy (y_pick_false rfl rfl) ?_
   refine jnt ?_
   refine jc_false rfl ?_
   refine jc_skip ?_
   refine jq_join ?_ ?_
   ·exact ⟨rfl, rfl, rfl, trivial⟩
   ·first | exact fun _ h => ⟨fun e => absurd e.2 (by assumption), h.cast (by unfold bkS; rw [if_neg (by simpa using h18)])⟩ | exact fun _ h => ⟨fun e => e.1 (by simpa using h18), h.cast (by unfold bkS; rw [if_pos (by simpa using h18)])⟩

end Go.Proofs.Ytomhcibbalhgkaa