/- The walks of package coin, part six: what is read, whole. Written by program (walk.py) out of a table of contracts and invariants. -/
import Derived.Test.YtomhcibbalhgkaaGreatCe
namespace Go.Proofs.YtomhcibbalhgkaaGreat
open Go.RowKit
set_option maxRecDepth 100000
set_option maxHeartbeats 2000000
set_option linter.unusedVariables false
set_option linter.unusedSimpArgs false
def cA (S : ByteArray) : RS := if byV S r00 = 67 then byS S r00 else flS (byS S r00) 4
theorem cA_ok (S : ByteArray) : okR S (cA S) := by
  unfold cA
  split
  · exact byS_ok (r00_ok S)
  · exact flS_ok (byS_ok (r00_ok S))
def cN (S : ByteArray) : Nat := (manyV S (cA S) 4).toNat
def cI (S : ByteArray) : List Inp × RS := rdMany (rdIn S) (manyS S (cA S) 4) (cN S)
def cM (S : ByteArray) : Nat := (manyV S (cI S).2 4).toNat
def cO (S : ByteArray) : List Oup × RS := rdMany (rdOu S) (manyS S (cI S).2 4) (cM S)
theorem cI_ok (S : ByteArray) : okR S (cI S).2 := rdMany_ok (fun _ h => rdIn_ok h) (manyS_ok (cA_ok S)) _
theorem cO_ok (S : ByteArray) : okR S (cO S).2 := rdMany_ok (fun _ h => rdOu_ok h) (manyS_ok (cI_ok S)) _
theorem manyV_range (S : ByteArray) (x : RS) : 0 ≤ manyV S x 4 ∧ manyV S x 4 ≤ 4 := by unfold manyV; split <;> omega
theorem cN_le (S : ByteArray) : cN S ≤ 4 ∧ manyV S (cA S) 4 = (cN S : Int) := by have := manyV_range S (cA S); unfold cN; omega
theorem cM_le (S : ByteArray) : cM S ≤ 4 ∧ manyV S (cI S).2 4 = (cM S : Int) := by have := manyV_range S (cI S).2; unfold cM; omega
theorem rdMany_flat {α : Type} {c : α → List Value} (f : RS → α × RS) (x : RS) (i : Nat) : (rdMany f x i).1.flatMap c ++ c (f (rdMany f x i).2).1 = (rdMany f x (i + 1)).1.flatMap c := by
  show _ = ((rdMany f x i).1 ++ [_]).flatMap c
  rw [List.flatMap_append, List.flatMap_singleton]
def coTrx (S : ByteArray) : Trx := ⟨(cI S).1, (cO S).1, pf0⟩
def coErr (S : ByteArray) : Int := endE S (cO S).2
theorem cI_eq (S : ByteArray) : rdMany (rdIn S) (manyS S (cA S) 4) (cN S) = cI S := rfl
theorem cO_eq (S : ByteArray) : rdMany (rdOu S) (manyS S (cI S).2 4) (cM S) = cO S := rfl
theorem coLen1 (S : ByteArray) : (coTrx S).ins.length = cN S := rdMany_length _ _ _
theorem coLen2 (S : ByteArray) : (coTrx S).outs.length = cM S := rdMany_length _ _ _
theorem coIns (S : ByteArray) : (coTrx S).ins = (cI S).1 := rfl
theorem coOuts (S : ByteArray) : (coTrx S).outs = (cO S).1 := rfl
attribute [irreducible] cA cN cM cI cO

theorem ccore_any (S : ByteArray) (w : World) (hS : S.size ≤ 1000000000) :
  Calls Tryz.prog 106 #[.string S] w fun e w' => ∃ pr : (Option Addr × Nat) × (Option Addr × Nat), e = .returned (.tuple #[.agg (Trx.c (coTrx S) pr.1.1 pr.1.2 pr.2.1 pr.2.2 none 0).toArray, .int .i64 (coErr S)]) ∧ Hp w [] [.row pr.1.1 ((coTrx S).ins.length) pr.1.2 97 4 (((coTrx S).ins).flatMap Inp.c), .row pr.2.1 ((coTrx S).outs.length) pr.2.2 56 9 (((coTrx S).outs).flatMap Oup.c)] w' := by
 have hn4 := cN_le S
 have hm4 := cM_le S
 refine calls_of (n := 51) (E := [(0, .string S)]) (W := Hp w [] []) Tryz.func106 rfl rfl (Nat.le_of_ble_eq_true rfl) rfl (Hp.nil _ _) ?_
 refine jsr ?_
 refine jl_m rfl (by decide) rfl (m_alloc) (fun b2 => ?_)
 refine jz ?_
 refine jnt ?_
 refine jsr ?_
 refine jl_m rfl (by decide) rfl (m_alloc) (fun b4 => ?_)
 refine jnt ?_
 refine jsr ?_
 refine jz ?_
 refine jl_fcall rfl (by decide) rfl (goes_func rfl) (fun w1 hw1 => cread_any _ w1) (fun br => ?_)
 refine jz ?_
 refine jnt ?_
 refine jc_seq ?_
 refine jc_seq ?_
 refine jc_world (fun _ h => h.cast (H' := [.cells br [.string (S.extract (r00).1 S.size), .int .i64 (r00).2], .cells b4 [.slice none (0) 0, .slice none (0) 0, .int .u64 0, .string ⟨#[]⟩, .string ⟨#[]⟩, .slice none 0 0], .cells b2 [.slice none (0) 0, .slice none (0) 0, .int .u64 0, .string ⟨#[]⟩, .string ⟨#[]⟩, .slice none 0 0]]) (by rw [ext_all])) ?_
 refine jc_region ?_
 refine jz ?_
 refine juc (goes_func rfl) (fun w1 hw1 => cbyte_any br S (r00) w1 hS (r00_ok S) hw1) ?_
 refine jy (y_neq rfl rfl) ?_
 refine jl_prop (fun h11 => ?_) (fun h11 => ?_)
 ·first
  | (exfalso; omega)
  | (
   refine jnt ?_
   refine jc_true rfl ?_
   refine jc_region ?_
   refine jz ?_
   refine juc (goes_func rfl) (fun w1 hw1 => cfail_any br _ _ 4 w1 hw1) ?_
   refine jnt ?_
   refine jc_seq ?_
   refine jc_seq ?_
   refine jc_world (fun _ h => h.cast (H' := [.cells br [.string (S.extract (cA S).1 S.size), .int .i64 (cA S).2], .cells b4 [.slice none (0) 0, .slice none (0) 0, .int .u64 0, .string ⟨#[]⟩, .string ⟨#[]⟩, .slice none 0 0], .cells b2 [.slice none (0) 0, .slice none (0) 0, .int .u64 0, .string ⟨#[]⟩, .string ⟨#[]⟩, .slice none 0 0]]) (by first | rw [show cA S = byS S r00 by unfold cA; rw [if_pos (by omega)]] | (rw [show cA S = flS (byS S r00) 4 by unfold cA; rw [if_neg (by omega)]]; rfl))) ?_
   refine jc_region ?_
   refine jz ?_
   refine juc (goes_func rfl) (fun w1 hw1 => cmany_any br S (cA S) 4 w1 hS (cA_ok S) hw1) ?_
   refine jl_as (u := .int .i64 ((cN S : Nat) : Int)) (congrArg (Value.int .i64) hn4.2) ?_
   refine jz ?_
   refine jnt ?_
   refine jc_block ?_
   refine jc_loop3 (fun (i : Nat) (a1 : Option Addr) (c1 : Nat) => [(2, .pointer (some ⟨b2, 0, none⟩)), (4, .pointer (some ⟨b4, 0, none⟩)), (5, .pointer (some ⟨br, 0, none⟩)), (15, .int .i64 ((cN S : Nat) : Int)), (16, .int .i64 (i : Nat))]) (fun (i : Nat) (a1 : Option Addr) (c1 : Nat) => fun w' => i ≤ cN S ∧ Hp w [] [.row a1 (i) c1 97 4 (((rdMany (rdIn S) (manyS S (cA S) 4) i).1).flatMap Inp.c), .cells b4 [.slice a1 (i) c1, .slice none (0) 0, .int .u64 0, .string ⟨#[]⟩, .string ⟨#[]⟩, .slice none 0 0], .cells br [.string (S.extract ((rdMany (rdIn S) (manyS S (cA S) 4) i).2).1 S.size), .int .i64 ((rdMany (rdIn S) (manyS S (cA S) 4) i).2).2], .cells b2 [.slice none (0) 0, .slice none (0) 0, .int .u64 0, .string ⟨#[]⟩, .string ⟨#[]⟩, .slice none 0 0]] w') (fun (i : Nat) (a1 : Option Addr) (c1 : Nat) => cN S - i) 0 none 0 ?_ ?_ ?_
   ·exact ⟨rfl, rfl, rfl, rfl, rfl, trivial⟩
   ·exact fun _ h => ⟨by omega, ((h.perm (List.Perm.swap _ _ _)).nilrow 97 4)⟩
   ·intro i a1 c1
    refine jc_and (fun hi => ?_)
    refine jsr ?_
    refine jy (y_lss rfl rfl) ?_
    refine jl_prop (fun h17 => ?_) (fun h17 => ?_)
    ·first
     | (exfalso; omega)
     | (
      refine jnt ?_
      refine jc_seq ?_
      refine jc_true rfl ?_
      refine jc_skip ?_
      refine jq_then ?_
      refine jc_seq ?_
      refine jc_block ?_
      refine jsr ?_
      refine jl_m rfl (by decide) rfl (m_alloc) (fun b6 => ?_)
      refine jnt ?_
      refine jsr ?_
      refine jz ?_
      refine juc (goes_func rfl) (fun w1 hw1 => chash_any br S ((rdMany (rdIn S) (manyS S (cA S) 4) i).2) w1 hS (rdMany_ok (fun _ h => rdIn_ok h) (manyS_ok (cA_ok S)) i) hw1) ?_
      refine jz ?_
      refine jz ?_
      refine jst ?_
      refine jnt ?_
      refine jsr ?_
      refine jz ?_
      refine juc (goes_func rfl) (fun w1 hw1 => cbyte_any br S (haS S ((rdMany (rdIn S) (manyS S (cA S) 4) i).2)) w1 hS (haS_ok (rdMany_ok (fun _ h => rdIn_ok h) (manyS_ok (cA_ok S)) i)) hw1) ?_
      refine jz ?_
      refine juc (goes_func rfl) (fun w1 hw1 => cbyte_any br S (byS S (haS S ((rdMany (rdIn S) (manyS S (cA S) 4) i).2))) w1 hS (byS_ok (haS_ok (rdMany_ok (fun _ h => rdIn_ok h) (manyS_ok (cA_ok S)) i))) hw1) ?_
      refine jz ?_
      refine jz ?_
      refine jst ?_
      refine jz ?_
      refine jst ?_
      refine jnt ?_
      refine jc_region ?_
      refine jz ?_
      refine jz ?_
      refine jz ?_
      refine jl_m rfl (by decide) rfl (m_buildSlice (size := 4) (by decide) (Built.agg rfl rfl rfl (by repeat constructor) Built.nil)) (fun b32 => ?_)
      refine jl_m2 rfl (by decide) rfl (m_append rfl rfl (by first | exact del0 | exact del1 | exact del2 | exact del3 | exact del4) (by first | exact del0 | exact del1 | exact del2 | exact del3 | exact del4) rfl (by omega) (by omega)) (fun a33 c33 => ?_)
      refine jz ?_
      refine jst ?_
      refine jl_nil ?_
      refine jq_block ?_
      refine jq_then ?_
      refine jc_region ?_
      refine jy (y_add_fits rfl rfl (by simp only [fits]; omega)) ?_
      refine jz ?_
      refine jl_nil ?_
      refine jq_round3 (i := i) (j := a1) (l := c1) (i + 1) a33 c33 ?_ ?_ ?_
      ·omega
      ·exact ⟨rfl, rfl, rfl, rfl, lk_int rfl (by omega), trivial⟩
      ·exact fun _ h => ⟨by omega, (h.part (.cons del0 (.cons del1 (.cons del1 (.cons del1 .nil))))).cast (by rw [← rdMany_flat]; rfl)⟩
      )
    ·first
     | (exfalso; omega)
     | (
      refine jnt ?_
      refine jc_seq ?_
      refine jc_false rfl ?_
      refine jc_exit ?_
      refine jq_then_exit ?_
      refine jq_then_exit ?_
      refine jq_hit ?_
      refine jq_then ?_
      refine jc_seq ?_
      refine jc_seq ?_
      have hie : i = cN S := by omega
      refine jc_world (fun _ h => h.cast (H' := [.row a1 (cN S) c1 97 4 (((cI S).1).flatMap Inp.c), .cells b4 [.slice a1 (cN S) c1, .slice none (0) 0, .int .u64 0, .string ⟨#[]⟩, .string ⟨#[]⟩, .slice none 0 0], .cells br [.string (S.extract ((cI S).2).1 S.size), .int .i64 ((cI S).2).2], .cells b2 [.slice none (0) 0, .slice none (0) 0, .int .u64 0, .string ⟨#[]⟩, .string ⟨#[]⟩, .slice none 0 0]]) (by subst hie; rw [cI_eq])) ?_
      refine jc_region ?_
      refine jz ?_
      refine juc (goes_func rfl) (fun w1 hw1 => cmany_any br S (cI S).2 4 w1 hS (cI_ok S) hw1) ?_
      refine jl_as (u := .int .i64 ((cM S : Nat) : Int)) (congrArg (Value.int .i64) hm4.2) ?_
      refine jz ?_
      refine jnt ?_
      refine jc_block ?_
      refine jc_loop3 (fun (j : Nat) (a2 : Option Addr) (c2 : Nat) => [(2, .pointer (some ⟨b2, 0, none⟩)), (4, .pointer (some ⟨b4, 0, none⟩)), (5, .pointer (some ⟨br, 0, none⟩)), (37, .int .i64 ((cM S : Nat) : Int)), (38, .int .i64 (j : Nat))]) (fun (j : Nat) (a2 : Option Addr) (c2 : Nat) => fun w' => j ≤ cM S ∧ Hp w [] [.row a2 (j) c2 56 9 (((rdMany (rdOu S) (manyS S (cI S).2 4) j).1).flatMap Oup.c), .row a1 (cN S) c1 97 4 (((cI S).1).flatMap Inp.c), .cells b4 [.slice a1 (cN S) c1, .slice a2 (j) c2, .int .u64 0, .string ⟨#[]⟩, .string ⟨#[]⟩, .slice none 0 0], .cells br [.string (S.extract ((rdMany (rdOu S) (manyS S (cI S).2 4) j).2).1 S.size), .int .i64 ((rdMany (rdOu S) (manyS S (cI S).2 4) j).2).2], .cells b2 [.slice none (0) 0, .slice none (0) 0, .int .u64 0, .string ⟨#[]⟩, .string ⟨#[]⟩, .slice none 0 0]] w') (fun (j : Nat) (a2 : Option Addr) (c2 : Nat) => cM S - j) 0 none 0 ?_ ?_ ?_
      ·exact ⟨rfl, rfl, rfl, rfl, rfl, trivial⟩
      ·exact fun _ h => ⟨by omega, h.nilrow 56 9⟩
      ·intro j a2 c2
       refine jc_and (fun hj => ?_)
       refine jsr ?_
       refine jy (y_lss rfl rfl) ?_
       refine jl_prop (fun h39 => ?_) (fun h39 => ?_)
       ·first
        | (exfalso; omega)
        | (
         refine jnt ?_
         refine jc_seq ?_
         refine jc_true rfl ?_
         refine jc_skip ?_
         refine jq_then ?_
         refine jc_seq ?_
         refine jc_block ?_
         refine jc_schedC (Hp w [] [.cells b4 [.slice a1 (cN S) c1, .slice a2 (j) c2, .int .u64 0, .string ⟨#[]⟩, .string ⟨#[]⟩, .slice none 0 0]]) 7 [(0, true), (1, true), (2, true), (3, false), (4, false), (5, false), (6, true)] rfl (by kernel_rfl) (fun _ _ _ _ h => h) (fun _ h => (h.part (.cons (by first | exact del0 | exact del1 | exact del2 | exact del3) .nil)).drew) (fun _ h => h.drew) ?_
         simp only [pickO, nthO, List.drop_succ_cons, List.drop_zero]
         refine jkz ?_
         refine jkz ?_
         refine jkz ?_
         refine js_ucallH rfl (by decide) rfl (goes_func rfl) (by rfl) (fun w1 hw1 => cgetou_any br S (rdMany (rdOu S) (manyS S (cI S).2 4) j).2 w1 hS (rdMany_ok (fun _ h => rdOu_ok h) (manyS_ok (cI_ok S)) j) (hw1.get mem3)) (by first | exact rep0 | exact rep1 | exact rep2 | exact rep3 | exact rep4) (by intro _ h; exact h.part (.cons (by first | exact del0 | exact del1 | exact del2 | exact del3) .nil)) ?_
         refine js_m (by intros; rename_i h; exact h.part (.cons (by first | exact del0 | exact del1 | exact del2 | exact del3) .nil)) rfl (by decide) rfl (m_buildSlice (size := 9) (by decide) (Built.agg rfl rfl rfl (by repeat constructor) Built.nil)) (fun b44 => ?_)
         refine js_m2z rfl (by decide) rfl (m_append rfl rfl (by first | exact del0 | exact del1 | exact del2 | exact del3 | exact del4) (by first | exact del0 | exact del1 | exact del2 | exact del3 | exact del4) rfl (by omega) (by omega)) (by intros; rename_i h; exact h.part (.cons (by first | exact del0 | exact del1 | exact del2 | exact del3) .nil)) (fun a45 c45 => ?_)
         refine jkz ?_
         refine js_nil ?_
         refine jst ?_
         refine jl_nil ?_
         refine jq_block ?_
         refine jq_then ?_
         refine jc_region ?_
         refine jy (y_add_fits rfl rfl (by simp only [fits]; omega)) ?_
         refine jz ?_
         refine jl_nil ?_
         refine jq_round3 (i := j) (j := a2) (l := c2) (j + 1) a45 c45 ?_ ?_ ?_
         ·omega
         ·exact ⟨rfl, rfl, rfl, rfl, lk_int rfl (by omega), trivial⟩
         ·exact fun _ h => ⟨by omega, h.cast (by rw [← rdMany_flat]; rfl)⟩
         )
       ·first
        | (exfalso; omega)
        | (
         refine jnt ?_
         refine jc_seq ?_
         refine jc_false rfl ?_
         refine jc_exit ?_
         refine jq_then_exit ?_
         refine jq_then_exit ?_
         refine jq_hit ?_
         refine jq_then ?_
         refine jc_seq ?_
         have hje : j = cM S := by omega
         refine jc_world (fun _ h => h.cast (H' := [.row a2 (cM S) c2 56 9 (((cO S).1).flatMap Oup.c), .row a1 (cN S) c1 97 4 (((cI S).1).flatMap Inp.c), .cells b4 [.slice a1 (cN S) c1, .slice a2 (cM S) c2, .int .u64 0, .string ⟨#[]⟩, .string ⟨#[]⟩, .slice none 0 0], .cells br [.string (S.extract ((cO S).2).1 S.size), .int .i64 ((cO S).2).2], .cells b2 [.slice none (0) 0, .slice none (0) 0, .int .u64 0, .string ⟨#[]⟩, .string ⟨#[]⟩, .slice none 0 0]]) (by subst hje; rw [cO_eq])) ?_
         refine jc_tail 3 (by kernel_rfl) (fun _ h => h.drew) ?_
         simp only [List.take_succ_cons, List.take_zero, List.drop_succ_cons, List.drop_zero]
         refine jtz ?_
         refine jtz ?_
         refine jt_call rfl (by decide) rfl (goes_func rfl) (fun w1 hw1 => pcall hw1 (cend_any br S (cO S).2 w1 (cO_ok S) (CellAt.of_cells (hw1.get (A := .cells br [.string (S.extract ((cO S).2).1 S.size), .int .i64 ((cO S).2).2]) mem3) rfl) (CellAt.of_cells (hw1.get (A := .cells br [.string (S.extract ((cO S).2).1 S.size), .int .i64 ((cO S).2).2]) mem3) rfl))) ?_
         refine jt_nil ?_
         refine jst ?_
         refine jz ?_
         refine jnt ?_
         refine jc_ret ?_
         refine jq_res (.inl rfl) rfl (.cell rfl (by first | exact ld_agg (by first | exact mem0 | exact mem1 | exact mem2 | exact mem3 | exact mem4 | exact mem5) (by repeat constructor) | exact ld_agg (by first | exact mem0 | exact mem1 | exact mem2 | exact mem3 | exact mem4 | exact mem5) (by assumption)) (.tmp rfl .nil)) ?_
         exact fun _ hw => ⟨((a1, c1), (a2, c2)), by have e1 := coLen1 S; have e2 := coLen2 S; simp only [Trx.c, e1, e2]; rfl, by have e1 := coLen1 S; have e2 := coLen2 S; rw [e1, e2]; exact hw.part (.cons del1 (.cons del0 .nil))⟩
         )
      )
   )
 ·first
  | (exfalso; omega)
  | (
   refine jnt ?_
   refine jc_false rfl ?_
   refine jc_skip ?_
   refine jq_then ?_
   refine jc_seq ?_
   refine jc_seq ?_
   refine jc_world (fun _ h => h.cast (H' := [.cells br [.string (S.extract (cA S).1 S.size), .int .i64 (cA S).2], .cells b4 [.slice none (0) 0, .slice none (0) 0, .int .u64 0, .string ⟨#[]⟩, .string ⟨#[]⟩, .slice none 0 0], .cells b2 [.slice none (0) 0, .slice none (0) 0, .int .u64 0, .string ⟨#[]⟩, .string ⟨#[]⟩, .slice none 0 0]]) (by first | rw [show cA S = byS S r00 by unfold cA; rw [if_pos (by omega)]] | (rw [show cA S = flS (byS S r00) 4 by unfold cA; rw [if_neg (by omega)]]; rfl))) ?_
   refine jc_region ?_
   refine jz ?_
   refine juc (goes_func rfl) (fun w1 hw1 => cmany_any br S (cA S) 4 w1 hS (cA_ok S) hw1) ?_
   refine jl_as (u := .int .i64 ((cN S : Nat) : Int)) (congrArg (Value.int .i64) hn4.2) ?_
   refine jz ?_
   refine jnt ?_
   refine jc_block ?_
   refine jc_loop3 (fun (i : Nat) (a1 : Option Addr) (c1 : Nat) => [(2, .pointer (some ⟨b2, 0, none⟩)), (4, .pointer (some ⟨b4, 0, none⟩)), (5, .pointer (some ⟨br, 0, none⟩)), (15, .int .i64 ((cN S : Nat) : Int)), (16, .int .i64 (i : Nat))]) (fun (i : Nat) (a1 : Option Addr) (c1 : Nat) => fun w' => i ≤ cN S ∧ Hp w [] [.row a1 (i) c1 97 4 (((rdMany (rdIn S) (manyS S (cA S) 4) i).1).flatMap Inp.c), .cells b4 [.slice a1 (i) c1, .slice none (0) 0, .int .u64 0, .string ⟨#[]⟩, .string ⟨#[]⟩, .slice none 0 0], .cells br [.string (S.extract ((rdMany (rdIn S) (manyS S (cA S) 4) i).2).1 S.size), .int .i64 ((rdMany (rdIn S) (manyS S (cA S) 4) i).2).2], .cells b2 [.slice none (0) 0, .slice none (0) 0, .int .u64 0, .string ⟨#[]⟩, .string ⟨#[]⟩, .slice none 0 0]] w') (fun (i : Nat) (a1 : Option Addr) (c1 : Nat) => cN S - i) 0 none 0 ?_ ?_ ?_
   ·exact ⟨rfl, rfl, rfl, rfl, rfl, trivial⟩
   ·exact fun _ h => ⟨by omega, ((h.perm (List.Perm.swap _ _ _)).nilrow 97 4)⟩
   ·intro i a1 c1
    refine jc_and (fun hi => ?_)
    refine jsr ?_
    refine jy (y_lss rfl rfl) ?_
    refine jl_prop (fun h17 => ?_) (fun h17 => ?_)
    ·first
     | (exfalso; omega)
     | (
      refine jnt ?_
      refine jc_seq ?_
      refine jc_true rfl ?_
      refine jc_skip ?_
      refine jq_then ?_
      refine jc_seq ?_
      refine jc_block ?_
      refine jsr ?_
      refine jl_m rfl (by decide) rfl (m_alloc) (fun b6 => ?_)
      refine jnt ?_
      refine jsr ?_
      refine jz ?_
      refine juc (goes_func rfl) (fun w1 hw1 => chash_any br S ((rdMany (rdIn S) (manyS S (cA S) 4) i).2) w1 hS (rdMany_ok (fun _ h => rdIn_ok h) (manyS_ok (cA_ok S)) i) hw1) ?_
      refine jz ?_
      refine jz ?_
      refine jst ?_
      refine jnt ?_
      refine jsr ?_
      refine jz ?_
      refine juc (goes_func rfl) (fun w1 hw1 => cbyte_any br S (haS S ((rdMany (rdIn S) (manyS S (cA S) 4) i).2)) w1 hS (haS_ok (rdMany_ok (fun _ h => rdIn_ok h) (manyS_ok (cA_ok S)) i)) hw1) ?_
      refine jz ?_
      refine juc (goes_func rfl) (fun w1 hw1 => cbyte_any br S (byS S (haS S ((rdMany (rdIn S) (manyS S (cA S) 4) i).2))) w1 hS (byS_ok (haS_ok (rdMany_ok (fun _ h => rdIn_ok h) (manyS_ok (cA_ok S)) i))) hw1) ?_
      refine jz ?_
      refine jz ?_
      refine jst ?_
      refine jz ?_
      refine jst ?_
      refine jnt ?_
      refine jc_region ?_
      refine jz ?_
      refine jz ?_
      refine jz ?_
      refine jl_m rfl (by decide) rfl (m_buildSlice (size := 4) (by decide) (Built.agg rfl rfl rfl (by repeat constructor) Built.nil)) (fun b32 => ?_)
      refine jl_m2 rfl (by decide) rfl (m_append rfl rfl (by first | exact del0 | exact del1 | exact del2 | exact del3 | exact del4) (by first | exact del0 | exact del1 | exact del2 | exact del3 | exact del4) rfl (by omega) (by omega)) (fun a33 c33 => ?_)
      refine jz ?_
      refine jst ?_
      refine jl_nil ?_
      refine jq_block ?_
      refine jq_then ?_
      refine jc_region ?_
      refine jy (y_add_fits rfl rfl (by simp only [fits]; omega)) ?_
      refine jz ?_
      refine jl_nil ?_
      refine jq_round3 (i := i) (j := a1) (l := c1) (i + 1) a33 c33 ?_ ?_ ?_
      ·omega
      ·exact ⟨rfl, rfl, rfl, rfl, lk_int rfl (by omega), trivial⟩
      ·exact fun _ h => ⟨by omega, (h.part (.cons del0 (.cons del1 (.cons del1 (.cons del1 .nil))))).cast (by rw [← rdMany_flat]; rfl)⟩
      )
    ·first
     | (exfalso; omega)
     | (
      refine jnt ?_
      refine jc_seq ?_
      refine jc_false rfl ?_
      refine jc_exit ?_
      refine jq_then_exit ?_
      refine jq_then_exit ?_
      refine jq_hit ?_
      refine jq_then ?_
      refine jc_seq ?_
      refine jc_seq ?_
      have hie : i = cN S := by omega
      refine jc_world (fun _ h => h.cast (H' := [.row a1 (cN S) c1 97 4 (((cI S).1).flatMap Inp.c), .cells b4 [.slice a1 (cN S) c1, .slice none (0) 0, .int .u64 0, .string ⟨#[]⟩, .string ⟨#[]⟩, .slice none 0 0], .cells br [.string (S.extract ((cI S).2).1 S.size), .int .i64 ((cI S).2).2], .cells b2 [.slice none (0) 0, .slice none (0) 0, .int .u64 0, .string ⟨#[]⟩, .string ⟨#[]⟩, .slice none 0 0]]) (by subst hie; rw [cI_eq])) ?_
      refine jc_region ?_
      refine jz ?_
      refine juc (goes_func rfl) (fun w1 hw1 => cmany_any br S (cI S).2 4 w1 hS (cI_ok S) hw1) ?_
      refine jl_as (u := .int .i64 ((cM S : Nat) : Int)) (congrArg (Value.int .i64) hm4.2) ?_
      refine jz ?_
      refine jnt ?_
      refine jc_block ?_
      refine jc_loop3 (fun (j : Nat) (a2 : Option Addr) (c2 : Nat) => [(2, .pointer (some ⟨b2, 0, none⟩)), (4, .pointer (some ⟨b4, 0, none⟩)), (5, .pointer (some ⟨br, 0, none⟩)), (37, .int .i64 ((cM S : Nat) : Int)), (38, .int .i64 (j : Nat))]) (fun (j : Nat) (a2 : Option Addr) (c2 : Nat) => fun w' => j ≤ cM S ∧ Hp w [] [.row a2 (j) c2 56 9 (((rdMany (rdOu S) (manyS S (cI S).2 4) j).1).flatMap Oup.c), .row a1 (cN S) c1 97 4 (((cI S).1).flatMap Inp.c), .cells b4 [.slice a1 (cN S) c1, .slice a2 (j) c2, .int .u64 0, .string ⟨#[]⟩, .string ⟨#[]⟩, .slice none 0 0], .cells br [.string (S.extract ((rdMany (rdOu S) (manyS S (cI S).2 4) j).2).1 S.size), .int .i64 ((rdMany (rdOu S) (manyS S (cI S).2 4) j).2).2], .cells b2 [.slice none (0) 0, .slice none (0) 0, .int .u64 0, .string ⟨#[]⟩, .string ⟨#[]⟩, .slice none 0 0]] w') (fun (j : Nat) (a2 : Option Addr) (c2 : Nat) => cM S - j) 0 none 0 ?_ ?_ ?_
      ·exact ⟨rfl, rfl, rfl, rfl, rfl, trivial⟩
      ·exact fun _ h => ⟨by omega, h.nilrow 56 9⟩
      ·intro j a2 c2
       refine jc_and (fun hj => ?_)
       refine jsr ?_
       refine jy (y_lss rfl rfl) ?_
       refine jl_prop (fun h39 => ?_) (fun h39 => ?_)
       ·first
        | (exfalso; omega)
        | (
         refine jnt ?_
         refine jc_seq ?_
         refine jc_true rfl ?_
         refine jc_skip ?_
         refine jq_then ?_
         refine jc_seq ?_
         refine jc_block ?_
         refine jc_schedC (Hp w [] [.cells b4 [.slice a1 (cN S) c1, .slice a2 (j) c2, .int .u64 0, .string ⟨#[]⟩, .string ⟨#[]⟩, .slice none 0 0]]) 7 [(0, true), (1, true), (2, true), (3, false), (4, false), (5, false), (6, true)] rfl (by kernel_rfl) (fun _ _ _ _ h => h) (fun _ h => (h.part (.cons (by first | exact del0 | exact del1 | exact del2 | exact del3) .nil)).drew) (fun _ h => h.drew) ?_
         simp only [pickO, nthO, List.drop_succ_cons, List.drop_zero]
         refine jkz ?_
         refine jkz ?_
         refine jkz ?_
         refine js_ucallH rfl (by decide) rfl (goes_func rfl) (by rfl) (fun w1 hw1 => cgetou_any br S (rdMany (rdOu S) (manyS S (cI S).2 4) j).2 w1 hS (rdMany_ok (fun _ h => rdOu_ok h) (manyS_ok (cI_ok S)) j) (hw1.get mem3)) (by first | exact rep0 | exact rep1 | exact rep2 | exact rep3 | exact rep4) (by intro _ h; exact h.part (.cons (by first | exact del0 | exact del1 | exact del2 | exact del3) .nil)) ?_
         refine js_m (by intros; rename_i h; exact h.part (.cons (by first | exact del0 | exact del1 | exact del2 | exact del3) .nil)) rfl (by decide) rfl (m_buildSlice (size := 9) (by decide) (Built.agg rfl rfl rfl (by repeat constructor) Built.nil)) (fun b44 => ?_)
         refine js_m2z rfl (by decide) rfl (m_append rfl rfl (by first | exact del0 | exact del1 | exact del2 | exact del3 | exact del4) (by first | exact del0 | exact del1 | exact del2 | exact del3 | exact del4) rfl (by omega) (by omega)) (by intros; rename_i h; exact h.part (.cons (by first | exact del0 | exact del1 | exact del2 | exact del3) .nil)) (fun a45 c45 => ?_)
         refine jkz ?_
         refine js_nil ?_
         refine jst ?_
         refine jl_nil ?_
         refine jq_block ?_
         refine jq_then ?_
         refine jc_region ?_
         refine jy (y_add_fits rfl rfl (by simp only [fits]; omega)) ?_
         refine jz ?_
         refine jl_nil ?_
         refine jq_round3 (i := j) (j := a2) (l := c2) (j + 1) a45 c45 ?_ ?_ ?_
         ·omega
         ·exact ⟨rfl, rfl, rfl, rfl, lk_int rfl (by omega), trivial⟩
         ·exact fun _ h => ⟨by omega, h.cast (by rw [← rdMany_flat]; rfl)⟩
         )
       ·first
        | (exfalso; omega)
        | (
         refine jnt ?_
         refine jc_seq ?_
         refine jc_false rfl ?_
         refine jc_exit ?_
         refine jq_then_exit ?_
         refine jq_then_exit ?_
         refine jq_hit ?_
         refine jq_then ?_
         refine jc_seq ?_
         have hje : j = cM S := by omega
         refine jc_world (fun _ h => h.cast (H' := [.row a2 (cM S) c2 56 9 (((cO S).1).flatMap Oup.c), .row a1 (cN S) c1 97 4 (((cI S).1).flatMap Inp.c), .cells b4 [.slice a1 (cN S) c1, .slice a2 (cM S) c2, .int .u64 0, .string ⟨#[]⟩, .string ⟨#[]⟩, .slice none 0 0], .cells br [.string (S.extract ((cO S).2).1 S.size), .int .i64 ((cO S).2).2], .cells b2 [.slice none (0) 0, .slice none (0) 0, .int .u64 0, .string ⟨#[]⟩, .string ⟨#[]⟩, .slice none 0 0]]) (by subst hje; rw [cO_eq])) ?_
         refine jc_tail 3 (by kernel_rfl) (fun _ h => h.drew) ?_
         simp only [List.take_succ_cons, List.take_zero, List.drop_succ_cons, List.drop_zero]
         refine jtz ?_
         refine jtz ?_
         refine jt_call rfl (by decide) rfl (goes_func rfl) (fun w1 hw1 => pcall hw1 (cend_any br S (cO S).2 w1 (cO_ok S) (CellAt.of_cells (hw1.get (A := .cells br [.string (S.extract ((cO S).2).1 S.size), .int .i64 ((cO S).2).2]) mem3) rfl) (CellAt.of_cells (hw1.get (A := .cells br [.string (S.extract ((cO S).2).1 S.size), .int .i64 ((cO S).2).2]) mem3) rfl))) ?_
         refine jt_nil ?_
         refine jst ?_
         refine jz ?_
         refine jnt ?_
         refine jc_ret ?_
         refine jq_res (.inl rfl) rfl (.cell rfl (by first | exact ld_agg (by first | exact mem0 | exact mem1 | exact mem2 | exact mem3 | exact mem4 | exact mem5) (by repeat constructor) | exact ld_agg (by first | exact mem0 | exact mem1 | exact mem2 | exact mem3 | exact mem4 | exact mem5) (by assumption)) (.tmp rfl .nil)) ?_
         exact fun _ hw => ⟨((a1, c1), (a2, c2)), by have e1 := coLen1 S; have e2 := coLen2 S; simp only [Trx.c, e1, e2]; rfl, by have e1 := coLen1 S; have e2 := coLen2 S; rw [e1, e2]; exact hw.part (.cons del1 (.cons del0 .nil))⟩
         )
      )
   )

end Go.Proofs.YtomhcibbalhgkaaGreat