/- The walks of packages payword and turnstileref04. Written by program (walk.py) out of a table of contracts and invariants. -/
import Derived.Test.YtddpoigfliaklaaMpay
import Derived.Test.YtddpoigfliaklaaNu
import Derived.Test.YtddpoigfliaklaaJk
namespace Go.Proofs.Ytddpoigfliaklaa
open Go.RowKit
set_option maxRecDepth 100000
set_option linter.unusedVariables false
set_option linter.unusedSimpArgs false
/-- A chain lies there. -/
def ChainAt (w : World) (b : Nat) (seed : ByteArray) (n : Nat) : Prop := ∃ bl, w.cell? ⟨b, 0, none⟩ = some (.slice (some ⟨bl, 0, none⟩) (n + 1) (n + 1)) ∧ Strs w (some ⟨bl, 0, none⟩) (toks seed n)
theorem ChainAt.keep {w w1 : World} {b n : Nat} {seed : ByteArray} {H : List HA} (h : ChainAt w b seed n) (hw : Hp w [] H w1) : ChainAt w1 b seed n := let ⟨bl, h1, h2⟩ := h; ⟨bl, hw.cell h1 (by simp), h2.keep hw⟩
def tokV (seed : ByteArray) (n : Nat) (i : Int) : ByteArray := if 0 ≤ i ∧ i ≤ n then tokS seed n i.toNat else ⟨#[]⟩
def tokE (n : Nat) (i : Int) : Int := if 0 ≤ i ∧ i ≤ n then 0 else 1
theorem tok_in {seed : ByteArray} {n : Nat} {i : Int} (h : 0 ≤ i ∧ i ≤ n) : tokV seed n i = tokS seed n i.toNat ∧ tokE n i = 0 := by unfold tokV tokE; rw [if_pos h, if_pos h]; exact ⟨rfl, rfl⟩
theorem tok_out {seed : ByteArray} {n : Nat} {i : Int} (h : ¬ (0 ≤ i ∧ i ≤ n)) : tokV seed n i = ⟨#[]⟩ ∧ tokE n i = 1 := by unfold tokV tokE; rw [if_neg h, if_neg h]; exact ⟨rfl, rfl⟩
theorem strs_at {w : World} {b : Nat} {ps : List ByteArray} {i : Nat} {p : ByteArray} (h : Strs w (some ⟨b, 0, none⟩) ps) (hp : ps[i]? = some p) : w.cell? ⟨b, i, none⟩ = some (.string p) := by
  obtain ⟨b', o', e, hc⟩ := h i p hp
  cases e
  simpa using hc
theorem strs_set {w : World} {b m cap e i : Nat} {ps : List ByteArray} {p : ByteArray} : (ps.map Value.string).set i (.string p) = (ps.set i p).map Value.string := by simp [List.map_set]

theorem next_any (t : ByteArray) (w : World) (hs : t.size ≤ 1000000) :
  Calls Try.prog 51 #[.string t] w fun e w' => e = .returned (.string (nextS t)) ∧ Ch [] w w' := by
 refine calls_of (n := 6) (E := [(0, .string t)]) (W := Hp w [] []) Try.func51 rfl rfl (Nat.le_of_ble_eq_true rfl) rfl (Hp.nil _ _) ?_
 refine jsr ?_
 refine jz ?_
 refine jnt ?_
 refine jsr ?_
 refine jz ?_
 refine jl_m rfl (by decide) rfl (m_buildSlice (by decide) (Built.cell rfl rfl rfl (by repeat constructor) Built.nil)) (fun b4 => ?_)
 refine jpc (goes_func rfl) (fun w1 hw1 => tag_any strPayword (some ⟨b4, 0, none⟩) 1 [t] w1 (by decide) (by simp) (all1 (hs)) (Strs.of_row (hw1.get mem0))) ?_
 refine jz ?_
 refine jnt ?_
 refine jc_ret ?_
 refine jq_ret1 rfl rfl ?_
 exact fun _ hw => ⟨rfl, hw.ch⟩


/-- The walk of walk, over whatever the function that is handed in keeps. -/
theorem walk_any (t : ByteArray) (ht : t.size = 16) (n : Nat) (hn : n ≤ 4096) (F : Nat) [HasBody Try.prog F] (c : List Value) (J : Nat → World → Prop) (stop : Nat → Bool) (w : World) (h0 : J 0 w) (hJ : ∀ i w w', J i w → Ch [] w w' → J i w') (hc : ∀ i w, i ≤ n → (∀ k, k < i → stop k = false) → J i w → Calls Try.prog F ([.int .i64 (i : Nat), .string (farN t i)] ++ c : List Value).toArray w fun e w' => e = .returned (.bool (!stop i)) ∧ J (i + 1) w') :
  Calls Try.prog 21 #[.string t, .int .i64 (n : Nat), .func (.func F) #[] c.toArray] w fun e w' => e = .returned (.tuple #[]) ∧ ∃ i, i ≤ n ∧ (∀ k, k < i → stop k = false) ∧ (i = n ∨ stop i = true) ∧ J (i + 1) w' := by
 refine calls_of (n := 20) (E := [(0, .string t), (1, .int .i64 (n : Nat)), (2, .func (.func F) #[] c.toArray)]) (W := J 0) Try.func21 rfl rfl (Nat.le_of_ble_eq_true rfl) rfl h0 ?_
 refine jsr ?_
 refine jz ?_
 refine jnt ?_
 refine jc_block ?_
 refine jc_loop (fun (i : Nat) => [(0, .string (farN t i)), (1, .int .i64 (n : Nat)), (2, .func (.func F) #[] c.toArray), (6, .int .i64 (i : Nat))]) (fun (i : Nat) => fun w' => (i ≤ n ∧ ∀ k, k < i → stop k = false) ∧ J i w') (fun (i : Nat) => n - i) 0 ?_ ?_ ?_
 ·exact ⟨rfl, rfl, rfl, rfl, trivial⟩
 ·exact fun _ h => ⟨⟨by omega, fun k hk => absurd hk (by omega)⟩, h⟩
 ·intro i
  refine jc_and (fun hi2 => ?_)
  obtain ⟨hi, hst⟩ := hi2
  refine jc_seq ?_
  refine jsr ?_
  refine jz ?_
  refine jz ?_
  refine jz ?_
  refine jl_call (ι := Unit) (v := fun _ => .bool (!stop i)) (W' := fun _ => J (i + 1)) rfl (by decide) rfl (goes_value (c := c) rfl rfl) (fun w1 hw1 => (hc i w1 hi hst hw1).mono fun e w' hh => ⟨(), hh⟩) (fun _ => ?_)
  refine jl_bool (fun h10 => ?_) (fun h10 => ?_)
  ·skip
   refine jz ?_
   refine jz ?_
   refine jz ?_
   refine jy (y_lss rfl rfl) ?_
   refine jl_prop (fun h14 => ?_) (fun h14 => ?_)
   ·first
    | (exfalso; omega)
    | (
     refine jy (y_pick_true rfl rfl) ?_
     refine jnt ?_
     refine jc_true rfl ?_
     refine jc_skip ?_
     refine jq_then ?_
     refine jc_seq ?_
     refine jc_block ?_
     refine jc_region ?_
     refine jz ?_
     refine jl_call (ι := Unit) (v := fun _ => .string (nextS (farN t i))) (W' := fun _ => J (i + 1)) rfl (by decide) rfl (goes_func rfl) (fun w1 hw1 => (next_any _ w1 (by rw [farN_size ht]; decide)).mono fun e w' ⟨he, hch⟩ => ⟨(), he, hJ _ _ _ hw1 hch⟩) (fun _ => ?_)
     refine jz ?_
     refine jl_nil ?_
     refine jq_block ?_
     refine jq_then ?_
     refine jc_region ?_
     refine jz ?_
     refine jy (y_add_fits rfl rfl (by simp only [fits]; omega)) ?_
     refine jz ?_
     refine jl_nil ?_
     refine jq_round (i := i) (i + 1) ?_ ?_ ?_
     ·omega
     ·exact ⟨rfl, rfl, rfl, lk_int rfl (by omega), trivial⟩
     ·exact fun _ h => ⟨⟨by omega, fun k hk => (Nat.lt_succ_iff_lt_or_eq.1 hk).elim (hst k) (fun e => by subst e; simpa using h10)⟩, h⟩
     )
   ·first
    | (exfalso; omega)
    | (
     refine jy (y_pick_true rfl rfl) ?_
     refine jnt ?_
     refine jc_false rfl ?_
     refine jc_exit ?_
     refine jq_then_exit ?_
     refine jq_then_exit ?_
     refine jq_hit ?_
     refine jq_end0 rfl ?_
     exact fun _ hw => ⟨rfl, i, hi, hst, .inl (by omega), hw⟩
     )
  ·skip
   refine jz ?_
   refine jsk ?_
   refine jsk ?_
   refine jsk ?_
   refine jy (y_pick_false rfl rfl) ?_
   refine jnt ?_
   refine jc_false rfl ?_
   refine jc_exit ?_
   refine jq_then_exit ?_
   refine jq_then_exit ?_
   refine jq_hit ?_
   refine jq_end0 rfl ?_
   exact fun _ hw => ⟨rfl, i, hi, hst, .inr (by simpa using h10), hw⟩

theorem new1_any (b3 b6 bl n i : Nat) (seed : ByteArray) (hi : i ≤ n) (hn : n ≤ 4096) (w : World) (h0 : HA.ok w (.row (some ⟨bl, 0, none⟩) (n + 1) (n + 1) 9 1 ((tokP seed n i).map .string))) (hc3 : CellAt w b3 0 (.int .i64 (n : Nat))) (hc6 : CellAt w b6 0 (.slice (some ⟨bl, 0, none⟩) (n + 1) (n + 1))) (h3 : b3 ≠ bl) (h6 : b6 ≠ bl) :
  Calls Try.prog 23 #[.int .i64 (i : Nat), .string (farN (seedT seed) i), .pointer (some ⟨b6, 0, none⟩), .pointer (some ⟨b3, 0, none⟩)] w fun e w' => e = .returned (.bool true) ∧ Upd w w' (.row (some ⟨bl, 0, none⟩) (n + 1) (n + 1) 9 1 ((tokP seed n i).map .string)) (.row (some ⟨bl, 0, none⟩) (n + 1) (n + 1) 9 1 ((tokP seed n (i + 1)).map .string)) := by
 refine calls_of (n := 13) (E := [(0, .int .i64 (i : Nat)), (1, .string (farN (seedT seed) i)), (2, .pointer (some ⟨b6, 0, none⟩)), (3, .pointer (some ⟨b3, 0, none⟩))]) (W := Hp w [bl] [.row (some ⟨bl, 0, none⟩) (n + 1) (n + 1) 9 1 ((tokP seed n i).map .string)]) Try.func23 rfl rfl (Nat.le_of_ble_eq_true rfl) rfl (Hp.start rfl h0) ?_
 refine jsr ?_
 refine jz ?_
 refine jnt ?_
 refine jsr ?_
 refine jy (y_load_old rfl hc6 (by simpa using h6)) ?_
 refine jy (y_load_old rfl hc3 (by simpa using h3)) ?_
 refine jz ?_
 refine jy (y_sub_fits rfl rfl (by simp only [fits]; omega)) ?_
 refine jz ?_
 refine jy (y_indexAddr_slice (off := n - i) rfl rfl (by omega) (by omega) (by omega)) ?_
 refine jl_w rfl rfl (w_store_row rfl rfl rfl (by simp only [List.length_map, tokP_length]; omega) rep0) ?_
 refine jnt ?_
 refine jsr ?_
 refine jz ?_
 refine jnt ?_
 refine jc_ret ?_
 refine jq_ret1 rfl rfl ?_
 exact fun w' hw => ⟨rfl, by rw [strs_set (w := w) (b := bl) (m := 0) (cap := 0) (e := 0), tokP_set seed hi] at hw; exact hw.updd rfl⟩

theorem new_ok (seed : ByteArray) (n : Nat) (w : World) (hs : seed.size ≤ 1000000) (h1 : 1 ≤ n) (h2 : n ≤ 4096) :
  Calls Try.prog 5 #[.string seed, .int .i64 (n : Nat)] w fun e w' => ∃ b, e = .returned (.tuple #[.pointer (some ⟨b, 0, none⟩), .int .i64 0]) ∧ Ch [] w w' ∧ ChainAt w' b seed n := by
 refine calls_of (n := 25) (E := [(0, .string seed), (1, .int .i64 (n : Nat))]) (W := Hp w [] []) Try.func5 rfl rfl (Nat.le_of_ble_eq_true rfl) rfl (Hp.nil _ _) ?_
 refine jsr ?_
 refine jl_m rfl (by decide) rfl (m_box rfl rfl) (fun b3 => ?_)
 refine jz ?_
 refine jz ?_
 refine jnt ?_
 refine jc_seq ?_
 refine jsr ?_
 refine jz ?_
 refine jy (y_lss rfl rfl) ?_
 refine jl_prop (fun h8 => ?_) (fun h8 => ?_)
 ·first
  | (exfalso; omega)
  | (
   refine jz ?_
   refine jsk ?_
   refine jsk ?_
   refine jy (y_pick_true rfl rfl) ?_
   refine jnt ?_
   refine jc_true rfl ?_
   refine jsr ?_
   refine jz ?_
   refine jz ?_
   refine jnt ?_
   refine jc_ret ?_
   refine jq_then_ret ?_
   refine jq_ret2 rfl rfl rfl ?_
   exact fun w' hw => ⟨b24, rfl, hw.ch, b15, (hw.get (A := .cells b24 [.slice (some ⟨b15, 0, none⟩) (n + 1) (n + 1)]) mem0 : Cells _ _ _).cell 0, Strs.of_row (hw.get mem2)⟩
   )
 ·first
  | (exfalso; omega)
  | (
   refine jz ?_
   refine jz ?_
   refine jy (y_gtr rfl rfl) ?_
   refine jl_prop (fun h11 => ?_) (fun h11 => ?_)
   ·first
    | (exfalso; omega)
    | (
     refine jy (y_pick_false rfl rfl) ?_
     refine jnt ?_
     refine jc_true rfl ?_
     refine jsr ?_
     refine jz ?_
     refine jz ?_
     refine jnt ?_
     refine jc_ret ?_
     refine jq_then_ret ?_
     refine jq_ret2 rfl rfl rfl ?_
     exact fun w' hw => ⟨b24, rfl, hw.ch, b15, (hw.get (A := .cells b24 [.slice (some ⟨b15, 0, none⟩) (n + 1) (n + 1)]) mem0 : Cells _ _ _).cell 0, Strs.of_row (hw.get mem2)⟩
     )
   ·first
    | (exfalso; omega)
    | (
     refine jy (y_pick_false rfl rfl) ?_
     refine jnt ?_
     refine jc_false rfl ?_
     refine jc_skip ?_
     refine jq_then ?_
     refine jsr ?_
     refine jz ?_
     refine jy (y_add_fits rfl rfl (by simp only [fits]; omega)) ?_
     refine jl_as (u := .int .i64 ((n + 1 : Nat) : Int)) (congrArg _ (by omega)) ?_
     refine jl_m rfl (by decide) rfl (m_make (m := n + 1) rfl rfl (by omega) (by omega)) (fun b15 => ?_)
     refine jl_m rfl (by decide) rfl (m_alloc) (fun b6 => ?_)
     refine jst ?_
     refine jnt ?_
     refine jc_seq ?_
     refine jc_world (fun _ h => h.cast (H' := [.cells b6 [.slice (some ⟨b15, 0, none⟩) (n + 1) (n + 1)], .row (some ⟨b15, 0, none⟩) (n + 1) (n + 1) 9 1 ((tokP seed n (0)).map .string), .cells b3 [.int .i64 (n : Nat)]]) (by rw [tokP_zero, toList_madeCells_one]; simp)) ?_
     refine jc_sched 5 [(0, true), (3, true), (4, true), (1, false), (2, false)] rfl (by kernel_rfl) (fun _ _ _ _ h => h) (fun _ h => h.drew) ?_
     simp only [pickO, nthO, List.drop_succ_cons, List.drop_zero]
     refine jkz ?_
     refine jkz ?_
     refine jky (y_makeFunc rfl rfl) ?_
     refine js_m (by intros; rename_i h; first | exact h | exact h.pop | exact h.pop.pop | exact h.pop.pop.pop | exact h.pop.pop.pop.pop | exact h.pop.pop.pop.pop.pop | exact h.pop.pop.pop.pop.pop.pop | exact h.part .nil) rfl (by decide) rfl (m_buildSlice (by decide) (Built.cell rfl rfl rfl (by repeat constructor) Built.nil)) (fun b17 => ?_)
     refine js_pcall (by intro _ h; first | exact h | exact h.pop | exact h.pop.pop | exact h.pop.pop.pop | exact h.pop.pop.pop.pop | exact h.pop.pop.pop.pop.pop | exact h.pop.pop.pop.pop.pop.pop | exact h.part .nil) rfl (by decide) rfl (goes_func rfl) (fun w1 hw1 => pcall hw1 (tag_any strSeeded (some ⟨b17, 0, none⟩) 1 [seed] w1 (by decide) (by simp) (all1 (hs)) (Strs.of_row (hw1.get mem0)))) ?_
     refine js_nil ?_
     refine jl_call (ι := Unit) (v := fun _ => .tuple #[]) (W' := fun _ => Hp w [] [.cells b6 [.slice (some ⟨b15, 0, none⟩) (n + 1) (n + 1)], .row (some ⟨b15, 0, none⟩) (n + 1) (n + 1) 9 1 ((tokP seed n (n + 1)).map .string), .cells b3 [.int .i64 (n : Nat)]]) rfl (by decide) rfl (goes_func rfl) (fun w1 hw1 => ?_) (fun _ => ?_)
     ·refine (walk_any (seedT seed) (seedT_size seed) n h2 23 [.pointer (some ⟨b6, 0, none⟩), .pointer (some ⟨b3, 0, none⟩)] (fun i => Hp w [] [.cells b6 [.slice (some ⟨b15, 0, none⟩) (n + 1) (n + 1)], .row (some ⟨b15, 0, none⟩) (n + 1) (n + 1) 9 1 ((tokP seed n (i)).map .string), .cells b3 [.int .i64 (n : Nat)]]) (fun _ => false) w1 (hw1.part (.cons del1 (.cons del1 (.cons del1 .nil)))) (fun i wa wb h1 hch => h1.pure hch) (fun i wa hi _ h3 => ?_)).mono ?_
      ·have hap := h3.apart
       simp only [List.pairwise_cons] at hap
       exact (new1_any b3 b6 b15 n i seed hi h2 wa (h3.get mem1) (CellAt.of_cells (h3.get mem2) rfl) (CellAt.of_cells (h3.get mem0) rfl) (fun e => hap.2.1 _ (.head _) b15 rfl (by rw [← e]; rfl)) (fun e => hap.1 _ (.head _) b6 rfl (by rw [e]; rfl))).mono fun e w' ⟨he, hu⟩ => ⟨he, hu.hp h3 rep1 rfl⟩
      ·rintro e w' ⟨he, i, hi, _, h4, h5⟩
       have e2 : i = n := h4.elim id (fun h => by cases h)
       subst e2
       exact ⟨(), he, h5⟩
     refine jnt ?_
     refine jc_seq ?_
     refine jc_world (fun _ h => h.cast (H' := [.cells b6 [.slice (some ⟨b15, 0, none⟩) (n + 1) (n + 1)], .row (some ⟨b15, 0, none⟩) (n + 1) (n + 1) 9 1 ((toks seed n).map .string), .cells b3 [.int .i64 (n : Nat)]]) (by rw [tokP_end])) ?_
     refine jc_region ?_
     refine jz ?_
     refine jy (y_build (Built.cell rfl rfl rfl (by repeat constructor) Built.nil)) ?_
     refine jl_m rfl (by decide) rfl (m_box rfl rfl) (fun b24 => ?_)
     refine jz ?_
     refine jz ?_
     refine jnt ?_
     refine jc_ret ?_
     refine jq_ret2 rfl rfl rfl ?_
     exact fun w' hw => ⟨b24, rfl, hw.ch, b15, (hw.get (A := .cells b24 [.slice (some ⟨b15, 0, none⟩) (n + 1) (n + 1)]) mem0 : Cells _ _ _).cell 0, Strs.of_row (hw.get mem2)⟩
     )
   )

theorem new_bad (seed : ByteArray) (n : Int) (w : World) (h1 : ¬ (1 ≤ n ∧ n ≤ 4096)) :
  Calls Try.prog 5 #[.string seed, .int .i64 n] w fun e w' => e = .returned (.tuple #[.pointer none, .int .i64 1]) ∧ Ch [] w w' := by
 refine calls_of (n := 25) (E := [(0, .string seed), (1, .int .i64 n)]) (W := Hp w [] []) Try.func5 rfl rfl (Nat.le_of_ble_eq_true rfl) rfl (Hp.nil _ _) ?_
 refine jsr ?_
 refine jl_m rfl (by decide) rfl (m_box rfl rfl) (fun b3 => ?_)
 refine jz ?_
 refine jz ?_
 refine jnt ?_
 refine jc_seq ?_
 refine jsr ?_
 refine jz ?_
 refine jy (y_lss rfl rfl) ?_
 refine jl_prop (fun h8 => ?_) (fun h8 => ?_)
 ·first
  | (exfalso; omega)
  | (
   refine jz ?_
   refine jsk ?_
   refine jsk ?_
   refine jy (y_pick_true rfl rfl) ?_
   refine jnt ?_
   refine jc_true rfl ?_
   refine jsr ?_
   refine jz ?_
   refine jz ?_
   refine jnt ?_
   refine jc_ret ?_
   refine jq_then_ret ?_
   refine jq_ret2 rfl rfl rfl ?_
   exact fun _ hw => ⟨rfl, hw.ch⟩
   )
 ·first
  | (exfalso; omega)
  | (
   refine jz ?_
   refine jz ?_
   refine jy (y_gtr rfl rfl) ?_
   refine jl_prop (fun h11 => ?_) (fun h11 => ?_)
   ·first
    | (exfalso; omega)
    | (
     refine jy (y_pick_false rfl rfl) ?_
     refine jnt ?_
     refine jc_true rfl ?_
     refine jsr ?_
     refine jz ?_
     refine jz ?_
     refine jnt ?_
     refine jc_ret ?_
     refine jq_then_ret ?_
     refine jq_ret2 rfl rfl rfl ?_
     exact fun _ hw => ⟨rfl, hw.ch⟩
     )
   ·exfalso; omega
   )

theorem anchor_any (b : Nat) (seed : ByteArray) (n : Nat) (w : World) (hc : ChainAt w b seed n) :
  Calls Try.prog 7 #[.pointer (some ⟨b, 0, none⟩)] w fun e w' => e = .returned (.string (tokS seed n 0)) ∧ Ch [] w w' := by
 obtain ⟨bl, hc1, hc2⟩ := hc
 refine calls_of (n := 9) (E := [(0, .pointer (some ⟨b, 0, none⟩))]) (W := Hp w [] []) Try.func7 rfl rfl (Nat.le_of_ble_eq_true rfl) rfl (Hp.nil _ _) ?_
 refine jsr ?_
 refine jz ?_
 refine jnt ?_
 refine jsr ?_
 refine jz ?_
 refine jz ?_
 refine jz ?_
 refine jy (y_load_old rfl hc1 (by simp)) ?_
 refine jy (y_indexAddr_slice (off := 0) rfl rfl (by omega) (by omega) (by omega)) ?_
 refine jy (y_load_old rfl (strs_at hc2 (toks_get seed (Nat.zero_le n))) (by simp)) ?_
 refine jz ?_
 refine jnt ?_
 refine jc_ret ?_
 refine jq_ret1 rfl rfl ?_
 exact fun _ hw => ⟨rfl, hw.ch⟩

theorem token_any (b : Nat) (seed : ByteArray) (n : Nat) (w : World) (hc : ChainAt w b seed n) (i : Int) :
  Calls Try.prog 10 #[.pointer (some ⟨b, 0, none⟩), .int .i64 i] w fun e w' => e = .returned (.tuple #[.string (tokV seed n i), .int .i64 (tokE n i)]) ∧ Ch [] w w' := by
 obtain ⟨bl, hc1, hc2⟩ := hc
 refine calls_of (n := 24) (E := [(0, .pointer (some ⟨b, 0, none⟩)), (1, .int .i64 i)]) (W := Hp w [] []) Try.func10 rfl rfl (Nat.le_of_ble_eq_true rfl) rfl (Hp.nil _ _) ?_
 refine jsr ?_
 refine jz ?_
 refine jz ?_
 refine jnt ?_
 refine jc_seq ?_
 refine jsr ?_
 refine jz ?_
 refine jy (y_lss rfl rfl) ?_
 refine jl_prop (fun h7 => ?_) (fun h7 => ?_)
 ·first
  | (exfalso; omega)
  | (
   refine jz ?_
   refine jsk ?_
   refine jsk ?_
   refine jsk ?_
   refine jsk ?_
   refine jsk ?_
   refine jsk ?_
   refine jsk ?_
   refine jy (y_pick_true rfl rfl) ?_
   refine jnt ?_
   refine jc_true rfl ?_
   refine jsr ?_
   refine jz ?_
   refine jz ?_
   refine jnt ?_
   refine jc_ret ?_
   refine jq_then_ret ?_
   refine jq_ret2 rfl rfl rfl ?_
   exact fun _ hw => ⟨by have f := @tok_out seed n i (by omega); rw [f.1, f.2] <;> rfl, hw.ch⟩
   )
 ·first
  | (exfalso; omega)
  | (
   refine jz ?_
   refine jz ?_
   refine jz ?_
   refine jz ?_
   refine jz ?_
   refine jy (y_load_old rfl hc1 (by simp)) ?_
   refine jy (y_len_slice rfl) ?_
   refine jy (y_geq rfl rfl) ?_
   refine jl_prop (fun h15 => ?_) (fun h15 => ?_)
   ·first
    | (exfalso; omega)
    | (
     refine jy (y_pick_false rfl rfl) ?_
     refine jnt ?_
     refine jc_true rfl ?_
     refine jsr ?_
     refine jz ?_
     refine jz ?_
     refine jnt ?_
     refine jc_ret ?_
     refine jq_then_ret ?_
     refine jq_ret2 rfl rfl rfl ?_
     exact fun _ hw => ⟨by have f := @tok_out seed n i (by omega); rw [f.1, f.2] <;> rfl, hw.ch⟩
     )
   ·first
    | (exfalso; omega)
    | (
     refine jy (y_pick_false rfl rfl) ?_
     refine jnt ?_
     refine jc_false rfl ?_
     refine jc_skip ?_
     refine jq_then ?_
     refine jsr ?_
     refine jz ?_
     refine jz ?_
     refine jz ?_
     refine jy (y_load_old rfl hc1 (by simp)) ?_
     refine jz ?_
     refine jy (y_indexAddr_slice (off := i.toNat) rfl rfl (by omega) (by omega) (by omega)) ?_
     refine jy (y_load_old rfl (strs_at hc2 (toks_get seed (show i.toNat ≤ n by omega))) (by simp)) ?_
     refine jz ?_
     refine jz ?_
     refine jnt ?_
     refine jc_ret ?_
     refine jq_ret2 rfl rfl rfl ?_
     exact fun _ hw => ⟨by have f := @tok_in seed n i (by omega); rw [f.1, f.2] <;> rfl, hw.ch⟩
     )
   )

theorem count1_any (b3 b8 b9 : Nat) (a t : ByteArray) (i x : Int) (y : Bool) (w : World) (h0 : Hp w [b8, b9] [.cells b8 [.int .i64 x], .cells b9 [.bool y]] w) (hc3 : CellAt w b3 0 (.string a)) (h3 : b3 ≠ b8 ∧ b3 ≠ b9) :
  Calls Try.prog 38 #[.int .i64 i, .string t, .pointer (some ⟨b3, 0, none⟩), .pointer (some ⟨b8, 0, none⟩), .pointer (some ⟨b9, 0, none⟩)] w fun e w' => e = .returned (.bool (!decide (t = a))) ∧ Hp w [b8, b9] [.cells b8 [.int .i64 i], .cells b9 [.bool (decide (t = a))]] w' := by
 refine calls_of (n := 14) (E := [(0, .int .i64 i), (1, .string t), (2, .pointer (some ⟨b3, 0, none⟩)), (3, .pointer (some ⟨b8, 0, none⟩)), (4, .pointer (some ⟨b9, 0, none⟩))]) (W := Hp w [b8, b9] [.cells b8 [.int .i64 x], .cells b9 [.bool y]]) Try.func38 rfl rfl (Nat.le_of_ble_eq_true rfl) rfl h0 ?_
 refine jsr ?_
 refine jz ?_
 refine jnt ?_
 refine jc_seq ?_
 refine jc_schedC (Hp w [b8, b9] []) 5 [(0, true), (1, true), (2, true), (3, true), (4, false)] rfl (by kernel_rfl) (fun _ _ _ _ h => h) (fun _ h => (h.part .nil).drew) (fun _ h => h.drew) ?_
 simp only [pickO, nthO, List.drop_succ_cons, List.drop_zero]
 refine jkz ?_
 refine jkz ?_
 refine jky (y_load_old rfl hc3 (by simpa using h3)) ?_
 refine jky (y_seql rfl rfl) ?_
 refine js_w rfl rfl (w_store_lit rfl rfl rfl (by first | exact rep0 | exact rep1 | exact rep2 | exact rep3 | exact rep4) (by repeat constructor)) (by intro _ h; first | exact h | exact h.pop | exact h.pop.pop | exact h.pop.pop.pop | exact h.pop.pop.pop.pop | exact h.pop.pop.pop.pop.pop | exact h.pop.pop.pop.pop.pop.pop | exact h.part .nil) ?_
 refine js_nil ?_
 refine jst ?_
 refine jnt ?_
 refine jsr ?_
 refine jz ?_
 refine jz ?_
 refine jz ?_
 refine jnt ?_
 refine jc_ret ?_
 refine jq_ret1 rfl rfl ?_
 exact fun _ hw => ⟨rfl, hw⟩

theorem count_any (a t : ByteArray) (m : Int) (w : World) (hm : fits .i64 m) :
  Calls Try.prog 15 #[.string a, .string t, .int .i64 m] w fun e w' => e = .returned (.tuple #[.int .i64 (cntV a t m), .int .i64 (cntE a t m)]) ∧ Ch [] w w' := by
 simp only [fits] at hm
 refine calls_of (n := 33) (E := [(0, .string a), (1, .string t), (2, .int .i64 m)]) (W := Hp w [] []) Try.func15 rfl rfl (Nat.le_of_ble_eq_true rfl) rfl (Hp.nil _ _) ?_
 refine jsr ?_
 refine jl_m rfl (by decide) rfl (m_box rfl rfl) (fun b3 => ?_)
 refine jz ?_
 refine jz ?_
 refine jnt ?_
 refine jc_seq ?_
 refine jsr ?_
 refine jz ?_
 refine jy (y_len_str rfl) ?_
 refine jy (y_neq rfl rfl) ?_
 refine jl_prop (fun h12 => ?_) (fun h12 => ?_)
 ·first
  | (exfalso; omega)
  | (
   refine jz ?_
   refine jsk ?_
   refine jsk ?_
   refine jsk ?_
   refine jy (y_pick_true rfl rfl) ?_
   refine jz ?_
   refine jsk ?_
   refine jsk ?_
   refine jy (y_pick_true rfl rfl) ?_
   refine jz ?_
   refine jsk ?_
   refine jsk ?_
   refine jy (y_pick_true rfl rfl) ?_
   refine jnt ?_
   refine jc_true rfl ?_
   refine jsr ?_
   refine jz ?_
   refine jz ?_
   refine jnt ?_
   refine jc_ret ?_
   refine jq_then_ret ?_
   refine jq_ret2 rfl rfl rfl ?_
   exact fun _ hw => ⟨by have f := @cnt_bad a t m (by omega); rw [f.1, f.2] <;> rfl, hw.ch⟩
   )
 ·first
  | (exfalso; omega)
  | (
   refine jz ?_
   refine jz ?_
   refine jy (y_len_str rfl) ?_
   refine jy (y_neq rfl rfl) ?_
   refine jl_prop (fun h16 => ?_) (fun h16 => ?_)
   ·first
    | (exfalso; omega)
    | (
     refine jy (y_pick_false rfl rfl) ?_
     refine jz ?_
     refine jsk ?_
     refine jsk ?_
     refine jy (y_pick_true rfl rfl) ?_
     refine jz ?_
     refine jsk ?_
     refine jsk ?_
     refine jy (y_pick_true rfl rfl) ?_
     refine jnt ?_
     refine jc_true rfl ?_
     refine jsr ?_
     refine jz ?_
     refine jz ?_
     refine jnt ?_
     refine jc_ret ?_
     refine jq_then_ret ?_
     refine jq_ret2 rfl rfl rfl ?_
     exact fun _ hw => ⟨by have f := @cnt_bad a t m (by omega); rw [f.1, f.2] <;> rfl, hw.ch⟩
     )
   ·first
    | (exfalso; omega)
    | (
     refine jy (y_pick_false rfl rfl) ?_
     refine jz ?_
     refine jz ?_
     refine jy (y_lss rfl rfl) ?_
     refine jl_prop (fun h20 => ?_) (fun h20 => ?_)
     ·first
      | (exfalso; omega)
      | (
       refine jy (y_pick_false rfl rfl) ?_
       refine jz ?_
       refine jsk ?_
       refine jsk ?_
       refine jy (y_pick_true rfl rfl) ?_
       refine jnt ?_
       refine jc_true rfl ?_
       refine jsr ?_
       refine jz ?_
       refine jz ?_
       refine jnt ?_
       refine jc_ret ?_
       refine jq_then_ret ?_
       refine jq_ret2 rfl rfl rfl ?_
       exact fun _ hw => ⟨by have f := @cnt_bad a t m (by omega); rw [f.1, f.2] <;> rfl, hw.ch⟩
       )
     ·first
      | (exfalso; omega)
      | (
       refine jy (y_pick_false rfl rfl) ?_
       refine jz ?_
       refine jz ?_
       refine jy (y_gtr rfl rfl) ?_
       refine jl_prop (fun h24 => ?_) (fun h24 => ?_)
       ·first
        | (exfalso; omega)
        | (
         refine jy (y_pick_false rfl rfl) ?_
         refine jnt ?_
         refine jc_true rfl ?_
         refine jsr ?_
         refine jz ?_
         refine jz ?_
         refine jnt ?_
         refine jc_ret ?_
         refine jq_then_ret ?_
         refine jq_ret2 rfl rfl rfl ?_
         exact fun _ hw => ⟨by have f := @cnt_bad a t m (by omega); rw [f.1, f.2] <;> rfl, hw.ch⟩
         )
       ·first
        | (exfalso; omega)
        | (
         refine jy (y_pick_false rfl rfl) ?_
         refine jnt ?_
         refine jc_false rfl ?_
         refine jc_skip ?_
         refine jq_then ?_
         refine jsr ?_
         refine jl_m rfl (by decide) rfl (m_alloc) (fun b8 => ?_)
         refine jl_m rfl (by decide) rfl (m_alloc) (fun b9 => ?_)
         refine jst ?_
         refine jst ?_
         refine jnt ?_
         refine jc_seq ?_
         obtain ⟨m, rfl⟩ : ∃ m2 : Nat, m = (m2 : Int) := ⟨m.toNat, by omega⟩
         have hss : t.size = 16 := by omega
         have hok : a.size = 16 ∧ t.size = 16 ∧ 0 ≤ (m : Int) ∧ (m : Int) ≤ 4096 := by omega
         refine jc_region ?_
         refine jz ?_
         refine jz ?_
         refine jy (y_makeFunc rfl rfl) ?_
         refine jl_call (ι := Unit) (v := fun _ => .tuple #[]) (W' := fun _ w' => ∃ x y, ((y = true → cntV a t m = x ∧ cntE a t m = 0) ∧ (y = false → cntV a t m = 0 ∧ cntE a t m = 4)) ∧ Hp w [] [.cells b9 [.bool y], .cells b8 [.int .i64 x], .cells b3 [.string a]] w') rfl (by decide) rfl (goes_func rfl) (fun w1 hw1 => ?_) (fun _ => ?_)
         ·refine (walk_any t hss m (by omega) 38 [.pointer (some ⟨b3, 0, none⟩), .pointer (some ⟨b8, 0, none⟩), .pointer (some ⟨b9, 0, none⟩)] (fun i w' => ∃ x y, Hp w [] [.cells b9 [.bool y], .cells b8 [.int .i64 x], .cells b3 [.string a]] w' ∧ (0 < i → x = ((i - 1 : Nat) : Int) ∧ y = decide (farN t (i - 1) = a))) (fun i => decide (farN t i = a)) w1 ⟨_, _, hw1, fun h => absurd h (by omega)⟩ (fun i wa wb ⟨x, y, h1, h2⟩ hch => ⟨x, y, h1.pure hch, h2⟩) (fun i wa hi _ ⟨x, y, h1, h2⟩ => ?_)).mono ?_
          ·have hap := h1.apart
           simp only [List.pairwise_cons] at hap
           refine (count1_any b3 b8 b9 a (farN t i) (i : Nat) x y wa ?_ (CellAt.of_cells (h1.get mem2) rfl) ⟨fun e => hap.2.1 _ (.head _) b8 rfl (by rw [← e]; rfl), fun e => hap.1 _ (.tail _ (.head _)) b9 rfl (by rw [← e]; rfl)⟩).mono ?_
           ·exact ⟨.refl _ _, by intro A hA; simp only [List.mem_cons, List.not_mem_nil, or_false] at hA; rcases hA with rfl | rfl <;> first | exact h1.get mem1 | exact h1.get mem0, by intro A hA k hk; simp only [List.mem_cons, List.not_mem_nil, or_false] at hA; rcases hA with rfl | rfl <;> (cases hk; simp), by simp only [List.pairwise_cons]; exact ⟨fun B hB k hk hb => by simp only [List.mem_cons, List.not_mem_nil, or_false] at hB; subst hB; exact hap.1 _ (.head _) k hb hk, by simp, .nil⟩⟩
           ·rintro e w' ⟨he, h5⟩
            refine ⟨he, (i : Nat), decide (farN t i = a), ?_, fun _ => ⟨by simp, by simp⟩⟩
            exact h1.turn2 h5
          ·rintro e w' ⟨he, i, hi, h3, h4, x, y, h5, h6⟩
           obtain ⟨rfl, rfl⟩ := h6 (by omega)
           refine ⟨(), he, _, _, ⟨fun hy => ?_, fun hy => ?_⟩, h5⟩
           ·have hf : farN t i = a := by simpa using hy
            exact cnt_first hok (hit_before h3) hf (by omega)
           ·have hf : ¬ farN t i = a := by simpa using hy
            have e2 : i = m := h4.elim id (fun h => absurd (of_decide_eq_true h) hf)
            subst e2
            exact cnt_none hok (hit_all h3 (by simpa using hf))
         refine jnt ?_
         refine jc_seq ?_
         refine jc_seq ?_
         refine jc_exw (fun x => ?_)
         refine jc_exw (fun y => ?_)
         refine jc_and (fun hxy => ?_)
         obtain ⟨hy1, hy2⟩ := hxy
         refine jc_region ?_
         refine jz ?_
         refine jl_bool (fun h30 => ?_) (fun h30 => ?_)
         ·skip
          refine jz ?_
          refine jnt ?_
          refine jc_false rfl ?_
          refine jc_skip ?_
          refine jq_then ?_
          refine jsr ?_
          refine jz ?_
          refine jz ?_
          refine jz ?_
          refine jnt ?_
          refine jc_ret ?_
          refine jq_ret2 rfl rfl rfl ?_
          exact fun _ hw => ⟨by have f := hy1 h30; rw [f.1, f.2] <;> rfl, hw.ch⟩
         ·skip
          refine jz ?_
          refine jnt ?_
          refine jc_true rfl ?_
          refine jsr ?_
          refine jz ?_
          refine jz ?_
          refine jnt ?_
          refine jc_ret ?_
          refine jq_then_ret ?_
          refine jq_ret2 rfl rfl rfl ?_
          exact fun _ hw => ⟨by have f := hy2 h30; rw [f.1, f.2] <;> rfl, hw.ch⟩
         )
       )
     )
   )

theorem value_any (n u : Int) (w : World) (hn : fits .i64 n) (hu : fits .u64 u) :
  Calls Try.prog 56 #[.int .i64 n, .int .u64 u] w fun e w' => e = .returned (.tuple #[.int .u64 (valV n u), .int .i64 (valE n u)]) ∧ Ch [] w w' := by
 simp only [fits] at hn hu
 refine calls_of (n := 21) (E := [(0, .int .i64 n), (1, .int .u64 u)]) (W := Hp w [] []) Try.func56 rfl rfl (Nat.le_of_ble_eq_true rfl) rfl (Hp.nil _ _) ?_
 refine jsr ?_
 refine jz ?_
 refine jz ?_
 refine jnt ?_
 refine jsr ?_
 refine jz ?_
 refine jpc (goes_func rfl) (fun w1 hw1 => of_any _ w1 (by simp only [fits] at *; omega)) ?_
 refine jz ?_
 refine jz ?_
 refine jz ?_
 refine jz ?_
 refine jz ?_
 refine jnt ?_
 refine jc_seq ?_
 refine jsr ?_
 refine jz ?_
 refine jy (y_neq rfl rfl) ?_
 refine jl_prop (fun h14 => ?_) (fun h14 => ?_)
 ·first
  | (exfalso; omega)
  | (
   refine jnt ?_
   refine jc_true rfl ?_
   refine jsr ?_
   refine jz ?_
   refine jz ?_
   refine jz ?_
   refine jnt ?_
   refine jc_ret ?_
   refine jq_then_ret ?_
   refine jq_ret2 rfl rfl rfl ?_
   exact fun _ hw => ⟨by have f := @val_neg n u (by omega); rw [f.1, f.2]; exact congrArg (fun z => Ending.returned (.tuple #[.int .u64 0, .int .i64 z])) (by omega), hw.ch⟩
   )
 ·first
  | (exfalso; omega)
  | (
   refine jnt ?_
   refine jc_false rfl ?_
   refine jc_skip ?_
   refine jq_then ?_
   refine jsr ?_
   refine jz ?_
   refine jz ?_
   refine jpc (goes_func rfl) (fun w1 hw1 => mul_any _ _ w1 (by simp only [fits]; split <;> omega) (by simp only [fits] at *; omega)) ?_
   refine jz ?_
   refine jz ?_
   refine jz ?_
   refine jz ?_
   refine jnt ?_
   refine jc_ret ?_
   refine jq_ret2 rfl rfl rfl ?_
   exact fun _ hw => ⟨by have hn0 : ¬ n < 0 := (by omega); have f := @val_pos n u hn0; rw [f.1, f.2, if_neg hn0] <;> rfl, hw.ch⟩
   )

end Go.Proofs.Ytddpoigfliaklaa