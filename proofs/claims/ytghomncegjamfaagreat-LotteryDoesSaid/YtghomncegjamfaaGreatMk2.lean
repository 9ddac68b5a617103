/- The walks of package merkle, part two: keys. Written by program (walk.py) out of a table of contracts and invariants. -/
import Derived.Test.YtghomncegjamfaaGreatMk
namespace Go.Proofs.YtghomncegjamfaaGreat
open Go.RowKit
set_option maxRecDepth 100000
set_option linter.unusedVariables false
set_option linter.unusedSimpArgs false
attribute [local irreducible] Yields Makes Writes
/-- A key lies there, in none of the blocks that may be written, but its counter. -/
def KeyAt (w : World) (S : List Nat) (bk bc : Nat) (seed : ByteArray) (h : Nat) : Prop := bk ∉ S ∧ CellAt w bk 0 (.pointer (some ⟨bc, 0, none⟩)) ∧ CellAt w bk 1 (.string seed) ∧ CellAt w bk 3 (.string (rootK seed h)) ∧ ∃ adl cl, CellAt w bk 2 (.slice adl (leavesS seed h).length cl) ∧ Strs w adl (leavesS seed h) ∧ ∀ b o, adl = some ⟨b, o, none⟩ → b ∉ S
theorem KeyAt.keep {w w1 : World} {S : List Nat} {H : List HA} {bk bc h : Nat} {seed : ByteArray} (hk : KeyAt w S bk bc seed h) (hw : Hp w S H w1) : KeyAt w1 S bk bc seed h :=
  let ⟨h0, h1, h2, h3, adl, cl, h4, h5, h6⟩ := hk; ⟨h0, hw.cell h1 h0, hw.cell h2 h0, hw.cell h3 h0, adl, cl, hw.cell h4 h0, hw.strs h5 h6, h6⟩
theorem KeyAt.ch {w w1 : World} {S : List Nat} {bk bc h : Nat} {seed : ByteArray} (hk : KeyAt w S bk bc seed h) (hw : Ch [] w w1) : KeyAt w1 S bk bc seed h :=
  let ⟨h0, h1, h2, h3, adl, cl, h4, h5, h6⟩ := hk; ⟨h0, h1.ch hw, h2.ch hw, h3.ch hw, adl, cl, h4.ch hw, h5.ch hw, h6⟩
theorem KeyAt.less {w : World} {S : List Nat} {bk bc h : Nat} {seed : ByteArray} (hk : KeyAt w S bk bc seed h) (T : List Nat) (hT : ∀ k ∈ T, k ∈ S) : KeyAt w T bk bc seed h :=
  let ⟨h0, h1, h2, h3, adl, cl, h4, h5, h6⟩ := hk; ⟨fun hm => h0 (hT _ hm), h1, h2, h3, adl, cl, h4, h5, fun b o e hm => h6 b o e (hT _ hm)⟩
theorem KeyAt.grow {w wp w1 : World} {S : List Nat} {H : List HA} {bk bc h : Nat} {seed : ByteArray} {A : HA} {b : Nat} (hk : KeyAt w S bk bc seed h) (hp : Hp w S H wp) (hn : Fresh wp w1 A) (hA : A.foot = some b) : KeyAt w1 (b :: S) bk bc seed h := by
  have hsz := hp.ch.size
  have hb := hn.2.2 b hA
  have hlt := World.block_lt_of_cell? w _ hk.2.1
  obtain ⟨h0, h1, h2, h3, adl, cl, h4, h5, h6⟩ := (hk.keep hp).ch hn.1
  refine ⟨fun hm => ?_, h1, h2, h3, adl, cl, h4, h5, fun k o e hm => ?_⟩
  · rcases List.mem_cons.1 hm with e | hm
    · have : bk < w.heap.size := hlt; omega
    · exact h0 hm
  · rcases List.mem_cons.1 hm with e2 | hm
    · subst e
      obtain ⟨h0', _, _, _, adl', cl', h4', h5', h6'⟩ := hk
      have hc4 := (hp.cell h4' h0')
      have hc5 : CellAt w1 bk 2 (.slice adl' (leavesS seed h).length cl') := (show CellAt wp bk 2 _ from hc4).ch hn.1
      have e3 : some (Value.slice adl' (leavesS seed h).length cl') = some (.slice (some ⟨k, o, none⟩) (leavesS seed h).length cl) := hc5.symm.trans h4
      have e4 : adl' = some ⟨k, o, none⟩ := by injection e3 with e3; injection e3
      subst e4
      have := h5'.block_lt (by rw [leavesS_length]; exact Nat.two_pow_pos h)
      omega
    · exact h6 k o e hm

theorem seeded_any (seed : ByteArray) (i : Int) (w : World) (hs : seed.size ≤ 1000000) :
  Calls Tryz.prog 64 #[.string seed, .int .i64 i] w fun e w' => e = .returned (.string (seededS seed i)) ∧ Ch [] w w' := by
 refine calls_of (n := 10) (E := [(0, .string seed), (1, .int .i64 i)]) (W := Hp w [] []) Tryz.func64 rfl rfl (Nat.le_of_ble_eq_true rfl) rfl (Hp.nil _ _) ?_; refine jsr ?_; refine jz ?_; refine jnt ?_; refine jsr ?_; (iterate 2 refine jz ?_); refine jpc (goes_func rfl) (fun w1 hw1 => mone_any _ w1) ?_; refine jl_m rfl (by decide) rfl (m_buildSlice (by decide) (Built.cell rfl rfl rfl (by repeat constructor) (Built.cell rfl rfl rfl (by repeat constructor) Built.nil))) (fun b8 => ?_); refine jpc (goes_func rfl) (fun w1 hw1 => tag_any strLeaf (some ⟨b8, 0, none⟩) 2 [seed, oneB i] w1 (by decide) (by simp) (all2 (hs) (by rw [oneB_size]; decide)) (Strs.of_row (hw1.get mem0))) ?_; refine jz ?_; refine jnt ?_; refine jc_ret ?_; refine jq_ret1 rfl rfl ?_; exact fun _ hw => ⟨rfl, hw.ch⟩

theorem about_any (root : ByteArray) (i : Int) (msg : ByteArray) (w : World) (hr : root.size ≤ 1000000) (hm : msg.size ≤ 1000000) :
  Calls Tryz.prog 68 #[.string root, .int .i64 i, .string msg] w fun e w' => e = .returned (.string (aboutS root i msg)) ∧ Ch [] w w' := by
 refine calls_of (n := 13) (E := [(0, .string root), (1, .int .i64 i), (2, .string msg)]) (W := Hp w [] []) Tryz.func68 rfl rfl (Nat.le_of_ble_eq_true rfl) rfl (Hp.nil _ _) ?_; refine jsr ?_; refine jz ?_; refine jnt ?_; refine jsr ?_; (iterate 2 refine jz ?_); refine jpc (goes_func rfl) (fun w1 hw1 => mone_any _ w1) ?_; refine jy (y_concat rfl rfl (by simp only [ByteArray.size_append, oneB_size]; omega)) ?_; refine jz ?_; refine jy (y_concat rfl rfl (by simp only [ByteArray.size_append, oneB_size]; omega)) ?_; refine jz ?_; refine jnt ?_; refine jc_ret ?_; refine jq_ret1 rfl rfl ?_; exact fun _ hw => ⟨rfl, hw.ch⟩

theorem mnew_ok (seed : ByteArray) (h : Nat) (w : World) (hs : seed.size ≤ 1000000) (hh : h ≤ 4) :
  Calls Tryz.prog 38 #[.string seed, .int .i64 (h : Nat)] w fun e w' => ∃ b : Nat × Nat, e = .returned (.tuple #[.pointer (some ⟨b.1, 0, none⟩), .int .i64 0]) ∧ Fresh w w' (.cells b.2 [.int .i64 0, .int .i64 ((2 ^ h : Nat) : Int)]) ∧ ∀ S : List Nat, (∀ k ∈ S, k < w.heap.size) → KeyAt w' (b.2 :: S) b.1 b.2 seed h := by
 have hp16 := pow_le16 hh
 refine calls_of (n := 57) (E := [(0, .string seed), (1, .int .i64 (h : Nat))]) (W := Hp w [] []) Tryz.func38 rfl rfl (Nat.le_of_ble_eq_true rfl) rfl (Hp.nil _ _) ?_; refine jsr ?_; (iterate 2 refine jz ?_); refine jnt ?_; refine jc_seq ?_; refine jsr ?_; refine jz ?_; refine jy (y_lss rfl rfl) ?_; refine jl_prop (fun h9 => ?_) (fun h9 => ?_)
 ·first | (exfalso; omega) | (
   refine jz ?_; (iterate 2 refine jsk ?_); refine jy (y_pick_true rfl rfl) ?_; refine jnt ?_; refine jc_true rfl ?_; refine jsr ?_; (iterate 2 refine jz ?_); refine jnt ?_; refine jc_ret ?_; refine jq_then_ret ?_; refine jq_ret2 rfl rfl rfl ?_
   exact fun w' hw => by
    have hrow := hw.get (A := .row (adl) (2 ^ h) (cl) 9 1 ((leavesS seed h).map .string)) mem0
    have hkey : Cells w' b20 [.pointer (some ⟨b17, 0, none⟩), .string seed, .slice adl (2 ^ h) cl, .string (rootK seed h)] := hw.get mem1
    have hap := hw.apart
    simp only [List.pairwise_cons] at hap
    refine ⟨(b20, b17), rfl, (hw.part (.cons del2 .nil)).fresh, fun S hS => ⟨?_, hkey.cell 0, hkey.cell 1, hkey.cell 3, adl, cl, by rw [leavesS_length]; exact hkey.cell 2, Strs.of_own hrow, ?_⟩⟩
    ·intro hm
     rcases List.mem_cons.1 hm with e | hm
     ·have e2 : b20 = b17 := e
      exact hap.2.1 _ (.head _) b20 rfl (by rw [e2]; rfl)
     ·rcases hw.own _ mem1 b20 rfl with h1 | h1
      ·have := hS _ hm; omega
      ·cases h1
    ·intro b o e hm
     subst e
     rcases List.mem_cons.1 hm with e | hm
     ·have e2 : b = b17 := e
      exact hap.1 _ (.tail _ (.head _)) b rfl (by rw [e2]; rfl)
     ·rcases hw.own _ mem0 b rfl with h1 | h1
      ·have := hS _ hm; omega
      ·cases h1
   )
 ·first | (exfalso; omega) | (
   (iterate 2 refine jz ?_); refine jy (y_gtr rfl rfl) ?_; refine jl_prop (fun h12 => ?_) (fun h12 => ?_)
   ·first | (exfalso; omega) | (
     refine jy (y_pick_false rfl rfl) ?_; refine jnt ?_; refine jc_true rfl ?_; refine jsr ?_; (iterate 2 refine jz ?_); refine jnt ?_; refine jc_ret ?_; refine jq_then_ret ?_; refine jq_ret2 rfl rfl rfl ?_
     exact fun w' hw => by
      have hrow := hw.get (A := .row (adl) (2 ^ h) (cl) 9 1 ((leavesS seed h).map .string)) mem0
      have hkey : Cells w' b20 [.pointer (some ⟨b17, 0, none⟩), .string seed, .slice adl (2 ^ h) cl, .string (rootK seed h)] := hw.get mem1
      have hap := hw.apart
      simp only [List.pairwise_cons] at hap
      refine ⟨(b20, b17), rfl, (hw.part (.cons del2 .nil)).fresh, fun S hS => ⟨?_, hkey.cell 0, hkey.cell 1, hkey.cell 3, adl, cl, by rw [leavesS_length]; exact hkey.cell 2, Strs.of_own hrow, ?_⟩⟩
      ·intro hm
       rcases List.mem_cons.1 hm with e | hm
       ·have e2 : b20 = b17 := e
        exact hap.2.1 _ (.head _) b20 rfl (by rw [e2]; rfl)
       ·rcases hw.own _ mem1 b20 rfl with h1 | h1
        ·have := hS _ hm; omega
        ·cases h1
      ·intro b o e hm
       subst e
       rcases List.mem_cons.1 hm with e | hm
       ·have e2 : b = b17 := e
        exact hap.1 _ (.tail _ (.head _)) b rfl (by rw [e2]; rfl)
       ·rcases hw.own _ mem0 b rfl with h1 | h1
        ·have := hS _ hm; omega
        ·cases h1
     )
   ·first | (exfalso; omega) | (
     refine jy (y_pick_false rfl rfl) ?_; refine jnt ?_; refine jc_false rfl ?_; refine jc_skip ?_; refine jq_then ?_; refine jsr ?_; refine jz ?_; refine jy (y_shl_fits (p := 1) (q := ((h : Nat) : Int)) rfl rfl (by omega) (by simp only [IntKind.bits]; omega) (by rw [pow_two]; simp only [fits]; omega)) ?_; refine jl_as (u := .int .i64 ((2 ^ h : Nat) : Int)) (congrArg _ pow_two) ?_; refine jy (y_build (Built.cell rfl rfl rfl (by repeat constructor) Built.nil)) ?_; refine jl_m rfl (by decide) rfl (m_box rfl rfl) (fun b17 => ?_); refine jz ?_; refine jy (y_build (Built.cell rfl rfl rfl (by repeat constructor) (Built.cell rfl rfl rfl (by repeat constructor) Built.nil))) ?_; refine jl_m rfl (by decide) rfl (m_box rfl rfl) (fun b20 => ?_); refine jz ?_; refine jnt ?_; (iterate 2 refine jc_seq ?_); refine jc_world (fun _ h => h.nilrow 9 1) ?_; refine jc_region ?_; (iterate 8 refine jz ?_); refine jnt ?_; refine jc_block ?_; refine jc_loop3 (fun (i : Nat) (adl : Option Addr) (cl : Nat) => [(0, .string seed), (6, .pointer (some ⟨b20, 0, none⟩)), (27, .int .i64 ((2 ^ h : Nat) : Int)), (28, .int .i64 (i : Nat))]) (fun (i : Nat) (adl : Option Addr) (cl : Nat) => fun w' => i ≤ 2 ^ h ∧ Hp w [] [.row (adl) (i) (cl) 9 1 ((leavesN seed (i)).map .string), .cells b20 [.pointer (some ⟨b17, 0, none⟩), .string seed, .slice adl (i) cl, .string ⟨#[]⟩], .cells b17 [.int .i64 0, .int .i64 ((2 ^ h : Nat) : Int)]] w') (fun (i : Nat) (adl : Option Addr) (cl : Nat) => 2 ^ h - i) 0 none 0 ?_ ?_ ?_
     ·exact ⟨rfl, rfl, rfl, rfl, trivial⟩
     ·exact fun _ h => ⟨by omega, h⟩
     ·intro i adl cl
      refine jc_and (fun hi => ?_); refine jsr ?_; refine jy (y_lss rfl rfl) ?_; refine jl_prop (fun h29 => ?_) (fun h29 => ?_)
      ·first | (exfalso; omega) | (
        refine jnt ?_; refine jc_seq ?_; refine jc_true rfl ?_; refine jc_skip ?_; refine jq_then ?_; refine jc_seq ?_; refine jc_block ?_; refine jsr ?_; (iterate 2 refine jz ?_); refine jnt ?_; refine jc_schedC (Hp w [] [.cells b20 [.pointer (some ⟨b17, 0, none⟩), .string seed, .slice adl i cl, .string ⟨#[]⟩], .cells b17 [.int .i64 0, .int .i64 ((2 ^ h : Nat) : Int)]]) 13 [(0, true), (1, true), (2, true), (3, true), (4, true), (5, true), (6, true), (7, false), (8, false), (9, false), (10, false), (11, true), (12, true)] rfl (by kernel_rfl) (fun _ _ _ _ h => h) (fun _ h => (h.pop).drew) (fun _ h => h.drew) ?_
        simp only [pickO, nthO, List.drop_succ_cons, List.drop_zero]
        (iterate 7 refine jkz ?_); refine js_pcall (by intro _ h; first | exact h | exact h.pop | exact h.pop.pop | exact h.pop.pop.pop | exact h.pop.pop.pop.pop | exact h.pop.pop.pop.pop.pop | exact h.pop.pop.pop.pop.pop.pop | exact h.part .nil) rfl (by decide) rfl (goes_func rfl) (fun w1 hw1 => pcall hw1 (seeded_any _ _ w1 (by omega))) ?_; refine js_pcall (by intro _ h; first | exact h | exact h.pop | exact h.pop.pop | exact h.pop.pop.pop | exact h.pop.pop.pop.pop | exact h.pop.pop.pop.pop.pop | exact h.pop.pop.pop.pop.pop.pop | exact h.part .nil) rfl (by decide) rfl (goes_func rfl) (fun w1 hw1 => pcall hw1 (public_any _ w1 (by rw [seededS_size]; decide))) ?_; refine js_m (by intros; rename_i h; first | exact h | exact h.pop | exact h.pop.pop | exact h.pop.pop.pop | exact h.pop.pop.pop.pop | exact h.pop.pop.pop.pop.pop | exact h.pop.pop.pop.pop.pop.pop | exact h.part .nil) rfl (by decide) rfl (m_buildSlice (by decide) (Built.cell rfl rfl rfl (by repeat constructor) Built.nil)) (fun b40 => ?_); refine js_m2z rfl (by decide) rfl (m_append rfl rfl (by first | exact del0 | exact del1 | exact del2 | exact del3 | exact del4) (by first | exact del0 | exact del1 | exact del2 | exact del3 | exact del4) rfl (by omega) (by omega)) (by intros; rename_i h; first | exact h | exact h.pop | exact h.pop.pop | exact h.pop.pop.pop | exact h.pop.pop.pop.pop | exact h.pop.pop.pop.pop.pop | exact h.pop.pop.pop.pop.pop.pop | exact h.part .nil) (fun a41 c41 => ?_); (iterate 2 refine jkz ?_); refine js_nil ?_; refine jst ?_; refine jl_nil ?_; refine jq_block ?_; refine jq_then ?_; refine jc_region ?_; refine jy (yaf rfl rfl) ?_; refine jz ?_; refine jl_nil ?_; refine jq_round3 (i := i) (j := adl) (l := cl) (i + 1) a41 c41 ?_ ?_ ?_
        ·omega
        ·exact ⟨rfl, rfl, rfl, lk_int rfl (by omega), trivial⟩
        ·exact fun _ h => ⟨by omega, h.cast (by rw [leavesN_succ, List.map_append]; rfl)⟩
        )
      ·first | (exfalso; omega) | (
        refine jnt ?_; refine jc_seq ?_; refine jc_false rfl ?_; refine jc_exit ?_; (iterate 2 refine jq_then_exit ?_); refine jq_hit ?_; refine jq_then ?_; refine jc_seq ?_
        have hi2 : i = 2 ^ h := by omega
        subst hi2
        refine jc_region ?_; (iterate 5 refine jz ?_); refine jl_as (u := .slice adl (leavesS seed h).length cl) (by rw [leavesS_length]) ?_; refine jpc (goes_func rfl) (fun w1 hw1 => root1_any _ _ (leavesS seed h) w1 (by rw [leavesS_length]; omega) (Strs.of_own (hw1.get mem0))) ?_; (iterate 5 refine jz ?_); refine jst ?_; refine jnt ?_; refine jsr ?_; (iterate 3 refine jz ?_); refine jnt ?_; refine jc_ret ?_; refine jq_ret2 rfl rfl rfl ?_
        exact fun w' hw => by
         have hrow := hw.get (A := .row (adl) (2 ^ h) (cl) 9 1 ((leavesS seed h).map .string)) mem0
         have hkey : Cells w' b20 [.pointer (some ⟨b17, 0, none⟩), .string seed, .slice adl (2 ^ h) cl, .string (rootK seed h)] := hw.get mem1
         have hap := hw.apart
         simp only [List.pairwise_cons] at hap
         refine ⟨(b20, b17), rfl, (hw.part (.cons del2 .nil)).fresh, fun S hS => ⟨?_, hkey.cell 0, hkey.cell 1, hkey.cell 3, adl, cl, by rw [leavesS_length]; exact hkey.cell 2, Strs.of_own hrow, ?_⟩⟩
         ·intro hm
          rcases List.mem_cons.1 hm with e | hm
          ·have e2 : b20 = b17 := e
           exact hap.2.1 _ (.head _) b20 rfl (by rw [e2]; rfl)
          ·rcases hw.own _ mem1 b20 rfl with h1 | h1
           ·have := hS _ hm; omega
           ·cases h1
         ·intro b o e hm
          subst e
          rcases List.mem_cons.1 hm with e | hm
          ·have e2 : b = b17 := e
           exact hap.1 _ (.tail _ (.head _)) b rfl (by rw [e2]; rfl)
          ·rcases hw.own _ mem0 b rfl with h1 | h1
           ·have := hS _ hm; omega
           ·cases h1
        )
     )
   )

theorem mnew_bad (seed : ByteArray) (h : Int) (w : World) (hh : ¬ (0 ≤ h ∧ h ≤ 4)) :
  Calls Tryz.prog 38 #[.string seed, .int .i64 h] w fun e w' => e = .returned (.tuple #[.pointer none, .int .i64 1]) ∧ Ch [] w w' := by
 refine calls_of (n := 57) (E := [(0, .string seed), (1, .int .i64 h)]) (W := Hp w [] []) Tryz.func38 rfl rfl (Nat.le_of_ble_eq_true rfl) rfl (Hp.nil _ _) ?_; refine jsr ?_; (iterate 2 refine jz ?_); refine jnt ?_; refine jc_seq ?_; refine jsr ?_; refine jz ?_; refine jy (y_lss rfl rfl) ?_; refine jl_prop (fun h9 => ?_) (fun h9 => ?_)
 ·first | (exfalso; omega) | (refine jz ?_; (iterate 2 refine jsk ?_); refine jy (y_pick_true rfl rfl) ?_; refine jnt ?_; refine jc_true rfl ?_; refine jsr ?_; (iterate 2 refine jz ?_); refine jnt ?_; refine jc_ret ?_; refine jq_then_ret ?_; refine jq_ret2 rfl rfl rfl ?_; exact fun _ hw => ⟨rfl, hw.ch⟩)
 ·first | (exfalso; omega) | (
   (iterate 2 refine jz ?_); refine jy (y_gtr rfl rfl) ?_; refine jl_prop (fun h12 => ?_) (fun h12 => ?_)
   ·first | (exfalso; omega) | (refine jy (y_pick_false rfl rfl) ?_; refine jnt ?_; refine jc_true rfl ?_; refine jsr ?_; (iterate 2 refine jz ?_); refine jnt ?_; refine jc_ret ?_; refine jq_then_ret ?_; refine jq_ret2 rfl rfl rfl ?_; exact fun _ hw => ⟨rfl, hw.ch⟩)
   ·exfalso; omega
   )

theorem kroot_any (S : List Nat) (bk bc : Nat) (seed : ByteArray) (h : Nat) (w : World) (hk : KeyAt w S bk bc seed h) :
  Calls Tryz.prog 40 #[.pointer (some ⟨bk, 0, none⟩)] w fun e w' => e = .returned (.string (rootK seed h)) ∧ Ch [] w w' := by
 obtain ⟨hk0, hk1, hk2, hk3, adl, cl, hk4, hk5, hk6⟩ := hk
 refine calls_of (n := 7) (E := [(0, .pointer (some ⟨bk, 0, none⟩))]) (W := Hp w [] []) Tryz.func40 rfl rfl (Nat.le_of_ble_eq_true rfl) rfl (Hp.nil _ _) ?_; refine jsr ?_; refine jz ?_; refine jnt ?_; refine jsr ?_; (iterate 3 refine jz ?_); refine jy (y_load_old rfl hk3 (by simp)) ?_; refine jz ?_; refine jnt ?_; refine jc_ret ?_; refine jq_ret1 rfl rfl ?_; exact fun _ hw => ⟨rfl, hw.ch⟩

theorem ksign_ok (S : List Nat) (bk bc : Nat) (seed : ByteArray) (h : Nat) (w : World) (hk : KeyAt w S bk bc seed h) (hbc : bc ∈ S) (hh : h ≤ 4) (hsd : seed.size ≤ 1000000) (msg : ByteArray) (hm : msg.size ≤ 900000) (i : Nat) (hi : i < 2 ^ h) (hA : HA.ok w (.cells bc [.int .i64 ((i : Nat)), .int .i64 ((2 ^ h : Nat) : Int)])) :
  Calls Tryz.prog 41 #[.pointer (some ⟨bk, 0, none⟩), .string msg] w fun e w' => e = .returned (.tuple #[.string (signK seed h i msg), .int .i64 0]) ∧ Upd w w' (.cells bc [.int .i64 ((i : Nat)), .int .i64 ((2 ^ h : Nat) : Int)]) (.cells bc [.int .i64 (((i + 1 : Nat) : Int)), .int .i64 ((2 ^ h : Nat) : Int)]) := by
 obtain ⟨hk0, hk1, hk2, hk3, adl, cl, hk4, hk5, hk6⟩ := hk
 have hne : bk ≠ bc := fun e => hk0 (e ▸ hbc)
 have hne6 : ∀ b o, adl = some ⟨b, o, none⟩ → b ∉ [bc] := fun b o e hm => hk6 b o e (by simp at hm; subst hm; exact hbc)
 have hp16 := pow_le16 hh
 have hrz := rootK_size seed hh
 have hpo := @path_ok (leavesS seed h) (i : Nat) ⟨leavesS_ok seed hh, by omega, by rw [leavesS_length]; omega⟩
 rw [Int.toNat_natCast, leavesS_tall seed hh] at hpo
 have hpl := pathN_length (leavesS seed h) i h
 refine calls_of (n := 75) (E := [(0, .pointer (some ⟨bk, 0, none⟩)), (1, .string msg)]) (W := Hp w [bc] [.cells bc [.int .i64 ((i : Nat)), .int .i64 ((2 ^ h : Nat) : Int)]]) Tryz.func41 rfl rfl (Nat.le_of_ble_eq_true rfl) rfl (Hp.start rfl hA) ?_; refine jsr ?_; (iterate 2 refine jz ?_); refine jnt ?_; refine jsr ?_; (iterate 3 refine jz ?_); refine jy (y_load_old rfl hk1 (by simpa using hne)) ?_; (iterate 4 refine jz ?_); refine jnt ?_; refine jc_seq ?_; refine jsr ?_; (iterate 4 refine jz ?_); refine jy (y_load_old rfl hk1 (by simpa using hne)) ?_; (iterate 3 refine jz ?_); refine jy (y_geq rfl rfl) ?_; refine jl_prop (fun h27 => ?_) (fun h27 => ?_)
 ·first | (exfalso; omega) | (refine jnt ?_; refine jc_true rfl ?_; refine jsr ?_; (iterate 2 refine jz ?_); refine jnt ?_; refine jc_ret ?_; refine jq_then_ret ?_; refine jq_ret2 rfl rfl rfl ?_; exact fun w' hw => ⟨by have e : j = h := (by omega); subst e; rfl, (hw.part (.cons del1 .nil)).updd rfl⟩)
 ·first | (exfalso; omega) | (
   refine jnt ?_; refine jc_false rfl ?_; refine jc_skip ?_; refine jq_then ?_; refine jsr ?_; (iterate 3 refine jz ?_); refine jy (y_load_old rfl hk1 (by simpa using hne)) ?_; (iterate 3 refine jz ?_); refine jy (yaf rfl rfl) ?_; (iterate 2 refine jz ?_); refine jst ?_; refine jnt ?_; refine jc_seq ?_; refine jc_draw (by kernel_rfl) (fun _ h => h.drew) ?_; refine juz ?_; refine ju_call rfl (by decide) rfl (goes_func rfl) (fun w1 hw1 => pcall hw1 (mone_any _ w1)) ?_; (iterate 3 refine juz ?_); refine juy (y_load_old rfl hk2 (by simpa using hne)) ?_; refine juz ?_; refine ju_call rfl (by decide) rfl (goes_func rfl) (fun w1 hw1 => pcall hw1 (seeded_any _ _ w1 (by omega))) ?_; (iterate 3 refine juz ?_); refine juy (y_load_old rfl hk3 (by simpa using hne)) ?_; (iterate 2 refine juz ?_); refine ju_call rfl (by decide) rfl (goes_func rfl) (fun w1 hw1 => pcall hw1 (about_any _ _ _ w1 (by omega) (by omega))) ?_; refine ju_call rfl (by decide) rfl (goes_func rfl) (fun w1 hw1 => pcall hw1 (sign_any _ _ w1 (by rw [seededS_size]; decide) (by rw [aboutS_size]; omega))) ?_; refine juy (y_concat rfl rfl (by first | (simp only [oneB_size, signS_size]; omega) | omega)) ?_; refine ju_as (u := .string (signP seed h i msg 0)) (congrArg Value.string (signP_zero seed h i msg).symm) ?_; refine juz ?_; refine ju_nil ?_; refine jq_then ?_; refine jsr ?_; (iterate 3 refine jz ?_); refine jy (y_load_old rfl hk4 (by simpa using hne)) ?_; refine jz ?_; refine jl_fcall rfl (by decide) rfl (goes_func rfl) (fun w1 hw1 => path1_any _ _ (leavesS seed h) w1 (by rw [leavesS_length]; omega) (hw1.strs hk5 hne6) _) (fun ⟨ap, cp⟩ => ?_); (iterate 2 refine jz ?_); refine jl_as (u := .slice ap h cp) (by rw [hpo.1, hpl] <;> rfl) ?_; (iterate 3 refine jz ?_); refine jnt ?_; (iterate 2 refine jc_seq ?_); refine jc_world (fun _ hw => hw.cast (H' := [.row (ap) (h) (cp) 9 1 ((pathN (leavesS seed h) i h).map .string), .cells bc [.int .i64 ((i : Nat) + 1), .int .i64 ((2 ^ h : Nat) : Int)]]) (by rw [hpo.1, hpl] <;> rfl)) ?_; refine jc_region ?_; refine jz ?_; refine jy (y_len_slice rfl) ?_; refine jz ?_; refine jnt ?_; refine jc_block ?_; refine jc_loop (fun (j : Nat) => [(7, .string (signP seed h i msg j)), (64, .slice ap h cp), (65, .int .i64 h), (66, .int .i64 (j : Nat))]) (fun (j : Nat) => fun w' => j ≤ h ∧ Hp w [bc] [.row (ap) (h) (cp) 9 1 ((pathN (leavesS seed h) i h).map .string), .cells bc [.int .i64 ((i : Nat) + 1), .int .i64 ((2 ^ h : Nat) : Int)]] w') (fun (j : Nat) => h - j) 0 ?_ ?_ ?_
   ·exact ⟨rfl, rfl, rfl, rfl, trivial⟩
   ·exact fun _ h => ⟨by omega, h⟩
   ·intro j
    refine jc_and (fun hj => ?_); refine jsr ?_; refine jy (y_lss rfl rfl) ?_; refine jl_prop (fun h67 => ?_) (fun h67 => ?_)
    ·first | (exfalso; omega) | (
      refine jl_pure (fun _ hw => row_some (hw.get mem0) (by omega)) (fun hps => ?_)
      obtain ⟨bp, hbp⟩ := hps
      subst hbp
      have hsz := signP_size seed hi msg (show j ≤ h by omega)
      have hps := path_size (l := leavesS seed h) (leavesN_size _ _) (leavesS_length seed h) (show i < (leavesS seed h).length by rw [leavesS_length]; exact hi) (show j < h by omega)
      refine jnt ?_; refine jc_seq ?_; refine jc_true rfl ?_; refine jc_skip ?_; refine jq_then ?_; refine jc_seq ?_; refine jc_block ?_; refine jsr ?_; refine jy (y_indexAddr_slice (off := j) rfl rfl (by omega) (by omega) (by omega)) ?_; refine jy (y_load_row rfl mem0 (by rw [List.getElem?_map, at0_some (by rw [hpl]; omega), pathN_at (by omega)]; rfl)) ?_; refine jz ?_; refine jnt ?_; refine jc_region ?_; (iterate 2 refine jz ?_); refine jy (y_concat rfl rfl (by first | (simp only [oneB_size, signS_size]; omega) | omega)) ?_; refine jl_as (u := .string (signP seed h i msg (j + 1))) (congrArg Value.string (signP_succ seed h i msg j).symm) ?_; refine jz ?_; refine jl_nil ?_; refine jq_block ?_; refine jq_then ?_; refine jc_region ?_; refine jy (yaf rfl rfl) ?_; refine jz ?_; refine jl_nil ?_; refine jq_round (i := j) (j + 1) ?_ ?_ ?_
      ·omega
      ·exact ⟨rfl, rfl, rfl, lk_int rfl (by omega), trivial⟩
      ·exact fun _ h => ⟨by omega, h⟩
      )
    ·first | (exfalso; omega) | (refine jnt ?_; refine jc_seq ?_; refine jc_false rfl ?_; refine jc_exit ?_; (iterate 2 refine jq_then_exit ?_); refine jq_hit ?_; refine jq_then ?_; refine jsr ?_; (iterate 3 refine jz ?_); refine jnt ?_; refine jc_ret ?_; refine jq_ret2 rfl rfl rfl ?_; exact fun w' hw => ⟨by have e : j = h := (by omega); subst e; rfl, (hw.part (.cons del1 .nil)).updd rfl⟩)
   )

theorem ksign_bad (S : List Nat) (bk bc : Nat) (seed : ByteArray) (h : Nat) (w : World) (hk : KeyAt w S bk bc seed h) (msg : ByteArray) (n : Int) (m : Int) (hnm : m ≤ n) (hc0 : CellAt w bc 0 (.int .i64 n)) (hc1 : CellAt w bc 1 (.int .i64 m)) :
  Calls Tryz.prog 41 #[.pointer (some ⟨bk, 0, none⟩), .string msg] w fun e w' => e = .returned (.tuple #[.string ⟨#[]⟩, .int .i64 14]) ∧ Ch [] w w' := by
 obtain ⟨hk0, hk1, hk2, hk3, adl, cl, hk4, hk5, hk6⟩ := hk
 refine calls_of (n := 75) (E := [(0, .pointer (some ⟨bk, 0, none⟩)), (1, .string msg)]) (W := Hp w [] []) Tryz.func41 rfl rfl (Nat.le_of_ble_eq_true rfl) rfl (Hp.nil _ _) ?_; refine jsr ?_; (iterate 2 refine jz ?_); refine jnt ?_; refine jsr ?_; (iterate 3 refine jz ?_); refine jy (y_load_old rfl hk1 (by simp)) ?_; (iterate 2 refine jz ?_); refine jy (y_load_old rfl hc0 (by simp)) ?_; refine jz ?_; refine jnt ?_; refine jc_seq ?_; refine jsr ?_; (iterate 4 refine jz ?_); refine jy (y_load_old rfl hk1 (by simp)) ?_; (iterate 2 refine jz ?_); refine jy (y_load_old rfl hc1 (by simp)) ?_; refine jy (y_geq rfl rfl) ?_; refine jl_prop (fun h27 => ?_) (fun h27 => ?_)
 ·first | (exfalso; omega) | (refine jnt ?_; refine jc_true rfl ?_; refine jsr ?_; (iterate 2 refine jz ?_); refine jnt ?_; refine jc_ret ?_; refine jq_then_ret ?_; refine jq_ret2 rfl rfl rfl ?_; exact fun _ hw => ⟨rfl, hw.ch⟩)
 ·exfalso; omega

theorem leaf_any (sig : ByteArray) (w : World) (hsz : sig.size ≤ 1000000) :
  Calls Tryz.prog 101 #[.string sig] w fun e w' => e = .returned (.tuple #[.int .i64 (leafV sig), .int .i64 (leafE sig)]) ∧ Ch [] w w' := by
 obtain ⟨q, hq⟩ : ∃ q : Nat, q = (sig.size - 289) / 16 := ⟨_, rfl⟩
 have hb0 := byte0_range sig
 have hlo : leafOk sig ↔ (289 ≤ sig.size ∧ (sig.size - 289) % 16 = 0 ∧ sig.size - 289 ≤ 64 ∧ byte0 sig < ((2 ^ q : Nat) : Int)) := by rw [hq]; exact Iff.rfl
 refine calls_of (n := 32) (E := [(0, .string sig)]) (W := Hp w [] []) Tryz.func101 rfl rfl (Nat.le_of_ble_eq_true rfl) rfl (Hp.nil _ _) ?_; refine jsr ?_; (iterate 2 refine jz ?_); refine jnt ?_; refine jsr ?_; refine jz ?_; refine jy (y_len_str rfl) ?_; (iterate 2 refine jy (ysf rfl rfl) ?_); refine jz ?_; refine jnt ?_; (iterate 2 refine jc_seq ?_); refine jc_draw (by kernel_rfl) (fun _ h => h.drew) ?_; refine juz ?_; refine juy (y_lss rfl rfl) ?_; refine ju_prop (fun h10 => ?_) (fun h10 => ?_)
 ·first | (exfalso; omega) | (refine juz ?_; (iterate 3 refine jus ?_); refine juy (y_pick_true rfl rfl) ?_; refine juz ?_; (iterate 2 refine jus ?_); refine juy (y_pick_true rfl rfl) ?_; refine juz ?_; (iterate 7 refine jus ?_); refine juy (y_pick_true rfl rfl) ?_; refine ju_nil ?_; refine jq_then ?_; refine jc_true rfl ?_; refine jsr ?_; (iterate 2 refine jz ?_); refine jnt ?_; refine jc_ret ?_; refine jq_then_ret ?_; refine jq_ret2 rfl rfl rfl ?_; exact fun _ hw => ⟨by have f := leaf_bad (fun h => by have h2 := hlo.1 h; omega); rw [f.1, f.2], hw.ch⟩)
 ·first | (exfalso; omega) | (
   (iterate 2 refine juz ?_); refine juy (y_rem rfl rfl (by omega) (by omega)) ?_; refine juy (y_gtr rfl rfl) ?_; refine ju_prop (fun h14 => ?_) (fun h14 => ?_)
   ·first | (exfalso; omega) | (refine juy (y_pick_false rfl rfl) ?_; refine juz ?_; (iterate 2 refine jus ?_); refine juy (y_pick_true rfl rfl) ?_; refine juz ?_; (iterate 7 refine jus ?_); refine juy (y_pick_true rfl rfl) ?_; refine ju_nil ?_; refine jq_then ?_; refine jc_true rfl ?_; refine jsr ?_; (iterate 2 refine jz ?_); refine jnt ?_; refine jc_ret ?_; refine jq_then_ret ?_; refine jq_ret2 rfl rfl rfl ?_; exact fun _ hw => ⟨by have f := leaf_bad (fun h => by have h2 := hlo.1 h; omega); rw [f.1, f.2], hw.ch⟩)
   ·first | (exfalso; omega) | (
     refine juy (y_pick_false rfl rfl) ?_; (iterate 2 refine juz ?_); refine juy (y_gtr rfl rfl) ?_; refine ju_prop (fun h18 => ?_) (fun h18 => ?_)
     ·first | (exfalso; omega) | (refine juy (y_pick_false rfl rfl) ?_; refine juz ?_; (iterate 7 refine jus ?_); refine juy (y_pick_true rfl rfl) ?_; refine ju_nil ?_; refine jq_then ?_; refine jc_true rfl ?_; refine jsr ?_; (iterate 2 refine jz ?_); refine jnt ?_; refine jc_ret ?_; refine jq_then_ret ?_; refine jq_ret2 rfl rfl rfl ?_; exact fun _ hw => ⟨by have f := leaf_bad (fun h => by have h2 := hlo.1 h; omega); rw [f.1, f.2], hw.ch⟩)
     ·first | (exfalso; omega) | (
       have hp16 := @pow_le16 q (by omega)
       refine juy (y_pick_false rfl rfl) ?_; (iterate 2 refine juz ?_); refine juy (y_at_str rfl rfl (by omega) (by omega)) ?_; refine ju_as (u := .int .u8 (byte0 sig)) (congrArg (Value.int .u8) (bAt_ints sig 0)) ?_
       first | refine juy (y_conv_fits rfl (by simp only [fits]; omega)) ?_
       refine juz ?_; refine juy (y_quo rfl rfl (by omega) (by omega) (by simp only [fits]; omega)) ?_; refine ju_as (u := .int .i64 ((q : Nat) : Int)) (congrArg _ (by omega)) ?_; refine juy (y_shl_fits (p := 1) (q := ((q : Nat) : Int)) rfl rfl (by omega) (by simp only [IntKind.bits]; omega) (by rw [pow_two]; simp only [fits]; omega)) ?_; refine ju_as (u := .int .i64 ((2 ^ q : Nat) : Int)) (congrArg _ pow_two) ?_; refine juy (y_geq rfl rfl) ?_; refine ju_prop (fun h27 => ?_) (fun h27 => ?_)
       ·first | (exfalso; omega) | (refine juy (y_pick_false rfl rfl) ?_; refine ju_nil ?_; refine jq_then ?_; refine jc_true rfl ?_; refine jsr ?_; (iterate 2 refine jz ?_); refine jnt ?_; refine jc_ret ?_; refine jq_then_ret ?_; refine jq_ret2 rfl rfl rfl ?_; exact fun _ hw => ⟨by have f := leaf_bad (fun h => by have h2 := hlo.1 h; omega); rw [f.1, f.2], hw.ch⟩)
       ·first | (exfalso; omega) | (
         refine juy (y_pick_false rfl rfl) ?_; refine ju_nil ?_; refine jq_then ?_; refine jc_false rfl ?_; refine jc_skip ?_; refine jq_then ?_; refine jsr ?_; refine jz ?_; refine jy (y_at_str rfl rfl (by omega) (by omega)) ?_; refine jl_as (u := .int .u8 (byte0 sig)) (congrArg (Value.int .u8) (bAt_ints sig 0)) ?_
         first | refine jy (y_conv_fits rfl (by simp only [fits]; omega)) ?_
         (iterate 2 refine jz ?_); refine jnt ?_; refine jc_ret ?_; refine jq_ret2 rfl rfl rfl ?_; exact fun _ hw => ⟨by have f := leaf_ok (hlo.2 ⟨by omega, by omega, by omega, by omega⟩); rw [f.1, f.2], hw.ch⟩
         )
       )
     )
   )

theorem verifyK_any (root msg sig : ByteArray) (w : World) (hm : msg.size ≤ 900000) (hsz : sig.size ≤ 1000000) :
  Calls Tryz.prog 87 #[.string root, .string msg, .string sig] w fun e w' => e = .returned (.bool (verK root msg sig)) ∧ Ch [] w w' := by
 refine calls_of (n := 63) (E := [(0, .string root), (1, .string msg), (2, .string sig)]) (W := Hp w [] []) Tryz.func87 rfl rfl (Nat.le_of_ble_eq_true rfl) rfl (Hp.nil _ _) ?_; refine jsr ?_; refine jz ?_; refine jnt ?_; refine jsr ?_; refine jz ?_; refine jpc (goes_func rfl) (fun w1 hw1 => leaf_any _ w1 (by omega)) ?_; (iterate 5 refine jz ?_); refine jnt ?_; refine jc_seq ?_; refine jsr ?_; refine jz ?_; refine jy (y_neq rfl rfl) ?_; refine jl_prop (fun h20 => ?_) (fun h20 => ?_)
 ·first | (exfalso; omega) | (refine jz ?_; (iterate 2 refine jsk ?_); refine jy (y_pick_true rfl rfl) ?_; refine jnt ?_; refine jc_true rfl ?_; refine jsr ?_; refine jz ?_; refine jnt ?_; refine jc_ret ?_; refine jq_then_ret ?_; refine jq_ret1 rfl rfl ?_; exact fun _ hw => ⟨by rw [ver_no (by omega)], hw.ch⟩)
 ·first | (exfalso; omega) | (
   (iterate 2 refine jz ?_); refine jpc (goes_func rfl) (fun w1 hw1 => odd_any _ w1) ?_; refine jl_bool (fun h23 => ?_) (fun h23 => ?_)
   ·skip
    refine jy (y_pick_false rfl rfl) ?_; refine jnt ?_; refine jc_true rfl ?_; refine jsr ?_; refine jz ?_; refine jnt ?_; refine jc_ret ?_; refine jq_then_ret ?_; refine jq_ret1 rfl rfl ?_; exact fun _ hw => ⟨by rw [ver_no (fun h => by rw [oddB_no h.2] at h23; cases h23)], hw.ch⟩
   ·skip
    refine jy (y_pick_false rfl rfl) ?_; refine jnt ?_; refine jc_false rfl ?_; refine jc_skip ?_; refine jq_then ?_; refine jc_seq ?_
    have hlf : leafOk sig := Decidable.byContradiction (fun hn => by have := (leaf_bad hn).2; omega)
    have hrt : root.size = 16 := oddB_size h23
    obtain ⟨hl1, hl2, hl3, hl4⟩ := hlf
    obtain ⟨q, hq⟩ : ∃ q : Nat, q = (sig.size - 289) / 16 := ⟨_, rfl⟩
    refine jc_world (fun _ h => h.nilrow 9 1) ?_; refine jc_region ?_; refine jz ?_; refine jnt ?_; refine jc_seq ?_; refine jsr ?_; refine jz ?_; refine jnt ?_; refine jc_block ?_; refine jc_loop3 (fun (j : Nat) (ad : Option Addr) (c : Nat) => [(0, .string root), (1, .string msg), (2, .string sig), (7, .int .i64 (leafV sig)), (9, .slice ad j c), (10, .int .i64 (289 + 16 * (j : Nat)))]) (fun (j : Nat) (ad : Option Addr) (c : Nat) => fun w' => j ≤ q ∧ Hp w [] [.row (ad) (j) (c) 9 1 ((partsN sig j).map .string)] w') (fun (j : Nat) (ad : Option Addr) (c : Nat) => q - j) 0 none 0 ?_ ?_ ?_
    ·exact ⟨rfl, rfl, rfl, rfl, rfl, rfl, trivial⟩
    ·exact fun _ h => ⟨by omega, h⟩
    ·intro j ad c
     refine jc_and (fun hj => ?_); refine jc_seq ?_; refine jsr ?_; (iterate 2 refine jz ?_); refine jy (y_len_str rfl) ?_; refine jy (y_lss rfl rfl) ?_; refine jl_prop (fun h28 => ?_) (fun h28 => ?_)
     ·first | (exfalso; omega) | (
       refine jnt ?_; refine jc_true rfl ?_; refine jc_skip ?_; refine jq_then ?_; refine jc_seq ?_; refine jc_block ?_; refine jc_region ?_; (iterate 4 refine jz ?_); refine jy (yaf rfl rfl) ?_; refine jy (y_substr rfl rfl rfl (by omega) (by omega) (by omega)) ?_; refine jl_as (u := .string (sig.extract (289 + 16 * j) (289 + 16 * j + 16))) (congrArg Value.string (by congr 1 <;> omega)) ?_; refine jl_m rfl (by decide) rfl (m_buildSlice (by decide) (Built.cell rfl rfl rfl (by repeat constructor) Built.nil)) (fun b37 => ?_); refine jl_m2 rfl (by decide) rfl (m_append rfl rfl (by first | exact del0 | exact del1 | exact del2 | exact del3 | exact del4) (by first | exact del0 | exact del1 | exact del2 | exact del3 | exact del4) rfl (by omega) (by omega)) (fun a38 c38 => ?_); refine jz ?_; refine jl_nil ?_; refine jq_block ?_; refine jq_then ?_; refine jc_region ?_; refine jz ?_; refine jy (yaf rfl rfl) ?_; refine jz ?_; refine jl_nil ?_; refine jq_round3 (i := j) (j := ad) (l := c) (j + 1) a38 c38 ?_ ?_ ?_
       ·omega
       ·exact ⟨rfl, rfl, rfl, rfl, rfl, lk_int rfl (by omega), trivial⟩
       ·exact fun _ h => ⟨by omega, h.cast (by rw [partsN_succ, List.map_append]; rfl)⟩
       )
     ·first | (exfalso; omega) | (
       refine jnt ?_; refine jc_false rfl ?_; refine jc_exit ?_; (iterate 2 refine jq_then_exit ?_); refine jq_hit ?_; refine jq_then ?_; refine jc_seq ?_; refine jc_draw (by kernel_rfl) (fun _ h => h.drew) ?_; (iterate 3 refine juz ?_); refine ju_call rfl (by decide) rfl (goes_func rfl) (fun w1 hw1 => pcall hw1 (about_any _ _ _ w1 (by omega) (by omega))) ?_; refine juz ?_; refine juy (y_substr rfl rfl rfl (by omega) (by omega) (by omega)) ?_; refine ju_as (u := .string (sig.extract 1 289)) rfl ?_; refine ju_call rfl (by decide) rfl (goes_func rfl) (fun w1 hw1 => pcall hw1 (from_any _ _ w1 (by rw [aboutS_size]; omega))) ?_; (iterate 5 refine juz ?_); refine ju_nil ?_; refine jq_then ?_; refine jsr ?_; (iterate 3 refine jz ?_); refine jl_as (u := .slice ad (partsS sig).length c) (by have e : j = q := (by omega); rw [e, hq]; unfold partsS; rw [partsN_length]) ?_; refine jpc (goes_func rfl) (fun w1 hw1 => up1_any _ _ _ _ (partsS sig) w1 (by unfold partsS; rw [partsN_length]; omega) (by have e : j = (sig.size - 289) / 16 := (by omega); have h2 := Strs.of_own (hw1.get mem0); rw [e] at h2; exact h2)) ?_; (iterate 5 refine jz ?_); refine jnt ?_; refine jsr ?_; refine jz ?_; refine jy (y_eql rfl rfl) ?_; refine jl_prop (fun h57 => ?_) (fun h57 => ?_)
       ·first | (exfalso; omega) | ((iterate 3 refine jz ?_); refine jy (y_seql rfl rfl) ?_; refine jy (y_pick_true rfl rfl) ?_; refine jz ?_; refine jnt ?_; refine jc_ret ?_; refine jq_ret1 rfl rfl ?_; exact fun _ hw => ⟨by rw [ver_yes ⟨by omega, hrt⟩]; simp [*], hw.ch⟩)
       ·first | (exfalso; omega) | (refine jz ?_; (iterate 3 refine jsk ?_); refine jy (y_pick_false rfl rfl) ?_; refine jz ?_; refine jnt ?_; refine jc_ret ?_; refine jq_ret1 rfl rfl ?_; exact fun _ hw => ⟨by rw [ver_yes ⟨by omega, hrt⟩]; simp [*], hw.ch⟩)
       )
   )

end Go.Proofs.YtghomncegjamfaaGreat