/- The walks of package merkle. Written by program (walk.py) out of a table of contracts and invariants. -/
import Derived.Test.YtghomncegjamfaaGreatMmerk
import Derived.Test.YtghomncegjamfaaGreatWo
import Derived.Test.YtghomncegjamfaaGreatJl
namespace Go.Proofs.YtghomncegjamfaaGreat
open Go.RowKit
set_option maxRecDepth 100000
set_option linter.unusedVariables false
set_option linter.unusedSimpArgs false
attribute [local irreducible] Yields Makes Writes
def oddB (p : ByteArray) : Bool := decide ((p.size : Int) ≠ 16)
theorem oddB_no {p : ByteArray} (h : p.size = 16) : oddB p = false := by unfold oddB; rw [h]; rfl
theorem oddB_size {p : ByteArray} (h : oddB p = false) : p.size = 16 := by unfold oddB at h; have := of_decide_eq_false h; omega
theorem any_even {ps : List ByteArray} (h : ∀ p ∈ ps, p.size = 16) : ps.any oddB = false := List.any_eq_false.2 fun p hp => by rw [oddB_no (h p hp)]; simp
theorem any_size {ps : List ByteArray} (h : ps.any oddB = false) : ∀ p ∈ ps, p.size = 16 := fun p hp => oddB_size (by have := List.any_eq_false.1 h p hp; simpa using this)
theorem xor_one {n : Nat} (h : n < 16) : bits .xor .i64 ((n : Nat) : Int) 1 = ((sib n : Nat) : Int) := by
  have : ∀ m : Fin 16, bits .xor .i64 ((m.val : Nat) : Int) 1 = ((sib m.val : Nat) : Int) := by decide +kernel
  exact this ⟨n, h⟩
theorem and_two {n : Nat} (h : n < 16) : bits .and .i64 ((n : Nat) : Int) 1 = ((n % 2 : Nat) : Int) := by
  have : ∀ m : Fin 16, bits .and .i64 ((m.val : Nat) : Int) 1 = ((m.val % 2 : Nat) : Int) := by decide +kernel
  exact this ⟨n, h⟩
theorem half_step (i k : Nat) : ((i / 2 ^ k : Nat) : Int) / 2 = ((i / 2 ^ (k + 1) : Nat) : Int) := by
  rw [Nat.pow_succ, ← Nat.div_div_eq_div_mul]; rfl
theorem div_small {i k m : Nat} (h : i < m) : i / 2 ^ k < m := Nat.lt_of_le_of_lt (Nat.div_le_self _ _) h
theorem pow_one_zero {k : Nat} (h : 2 ^ k ≤ 1) : k = 0 := by
  cases k with
  | zero => rfl
  | succ k => rw [Nat.pow_succ] at h; have := Nat.two_pow_pos k; omega
/-- Slices of strings, as values; and where they lie. -/
def RowVals (w : World) (vs : List Value) (rs : List (List ByteArray)) : Prop := ∀ (j : Nat) (r : List ByteArray), rs[j]? = some r → ∃ adj cj, vs[j]? = some (Value.slice adj r.length cj) ∧ Strs w adj r
def RowsAt (w : World) (b : Nat) (rs : List (List ByteArray)) : Prop := ∀ (j : Nat) (r : List ByteArray), rs[j]? = some r → ∃ adj cj, w.cell? ⟨b, j, none⟩ = some (Value.slice adj r.length cj) ∧ Strs w adj r
theorem RowsAt.keep {w w1 : World} {b : Nat} {rs : List (List ByteArray)} {H : List HA} (h : RowsAt w b rs) (hw : Hp w [] H w1) : RowsAt w1 b rs := fun j r hr => let ⟨adj, cj, h1, h2⟩ := h j r hr; ⟨adj, cj, hw.cell h1 (by simp), h2.keep hw⟩
def rowsL (l : List ByteArray) (k : Nat) : List (List ByteArray) := (List.range (k + 1)).map (rowN l)
theorem rowsL_at {l : List ByteArray} {j k : Nat} (h : j ≤ k) : (rowsL l k)[j]? = some (rowN l j) := by unfold rowsL; rw [List.getElem?_map, List.getElem?_range (by omega)]; rfl
theorem rowsL_succ (l : List ByteArray) (k : Nat) : rowsL l (k + 1) = l :: rowsL (aboveL l) k := by
  unfold rowsL
  rw [List.range_succ_eq_map, List.map_cons, List.map_map]
  congr 1
  apply List.map_congr_left
  intro j _
  exact (rowN_above l j).symm
theorem RowVals.cons {w : World} {vs : List Value} {rs : List (List ByteArray)} {adj : Option Addr} {cj : Nat} {r : List ByteArray} (h : RowVals w vs rs) (hr : Strs w adj r) : RowVals w (.slice adj r.length cj :: vs) (r :: rs) := by
  intro j s hs
  cases j with
  | zero => simp only [List.getElem?_cons_zero, Option.some.injEq] at hs; subst hs; exact ⟨adj, cj, rfl, hr⟩
  | succ j => exact h j s (by simpa using hs)
def rowBlk (ad : Option Addr) : List Nat := (ad.map (·.block)).toList
theorem rowBlk_foot {ad : Option Addr} {n c e s : Nat} {xs : List Value} {k : Nat} (h : (HA.row ad n c e s xs).foot = some k) : k ∈ rowBlk ad := by
  unfold rowBlk; simp only [HA.foot] at h; simp [h]
theorem rowBlk_mem {ad : Option Addr} {k : Nat} (h : k ∈ rowBlk ad) : ∃ o b, ad = some ⟨k, o, b⟩ := by
  unfold rowBlk at h
  cases ad with
  | none => simp at h
  | some a => simp at h; subst h; exact ⟨_, _, rfl⟩

theorem mone_any (n : Int) (w : World) :
  Calls Tryz.prog 66 #[.int .i64 n] w fun e w' => e = .returned (.string (oneB n)) ∧ Ch [] w w' := by
 refine calls_of (n := 7) (E := [(0, .int .i64 n)]) (W := Hp w [] []) Tryz.func66 rfl rfl (Nat.le_of_ble_eq_true rfl) rfl (Hp.nil _ _) ?_; refine jsr ?_; refine jz ?_; refine jnt ?_; refine jsr ?_; refine jz ?_; refine jy (y_conv_u8 rfl) ?_; refine jl_m rfl (by decide) rfl (m_buildSlice (by decide) (Built.cell rfl rfl rfl (by repeat constructor) Built.nil)) (fun b5 => ?_); refine jy (y_str_own rfl (by first | exact mem0 | exact mem1 | exact mem2 | exact mem3 | exact mem4 | exact mem5) (by repeat constructor)) ?_; refine jl_as (u := .string (oneB n)) rfl ?_; refine jz ?_; refine jnt ?_; refine jc_ret ?_; refine jq_ret1 rfl rfl ?_; exact fun _ hw => ⟨rfl, hw.ch⟩

theorem odd_any (p : ByteArray) (w : World) :
  Calls Tryz.prog 102 #[.string p] w fun e w' => e = .returned (.bool (oddB p)) ∧ Ch [] w w' := by
 refine calls_of (n := 6) (E := [(0, .string p)]) (W := Hp w [] []) Tryz.func102 rfl rfl (Nat.le_of_ble_eq_true rfl) rfl (Hp.nil _ _) ?_; refine jsr ?_; refine jz ?_; refine jnt ?_; refine jsr ?_; refine jz ?_; refine jy (y_len_str rfl) ?_; refine jy (y_neq rfl rfl) ?_; refine jz ?_; refine jnt ?_; refine jc_ret ?_; refine jq_ret1 rfl rfl ?_; exact fun _ hw => ⟨rfl, hw.ch⟩

theorem idxOdd_any (ad : Option Addr) (c : Nat) (ps : List ByteArray) (w : World) (hl : ps.length ≤ 1000000) (hps : Strs w ad ps) :
  Calls Tryz.prog 127 #[.slice ad ps.length c, .func (.func 102) #[] #[]] w fun e w' => e = .returned (.int .i64 (idxF oddB ps)) ∧ Ch [] w w' := by
 refine calls_of (n := 19) (E := [(0, .slice ad ps.length c), (1, .func (.func 102) #[] #[])]) (W := Hp w [] []) Tryz.func127 rfl rfl (Nat.le_of_ble_eq_true rfl) rfl (Hp.nil _ _) ?_; refine jsr ?_; refine jz ?_; refine jnt ?_; refine jc_seq ?_; refine jsr ?_; refine jz ?_; refine jy (y_len_slice rfl) ?_; refine jz ?_; refine jnt ?_; refine jc_block ?_; refine jc_loop (fun (i : Nat) => [(0, .slice ad ps.length c), (1, .func (.func 102) #[] #[]), (7, .int .i64 ps.length), (8, .int .i64 (i : Nat))]) (fun (i : Nat) => fun w' => (i ≤ ps.length ∧ ∀ j z, j < i → ps[j]? = some z → oddB z = false) ∧ Hp w [] [] w') (fun (i : Nat) => ps.length - i) 0 ?_ ?_ ?_
 ·exact ⟨rfl, rfl, rfl, rfl, trivial⟩
 ·exact fun _ h => ⟨⟨by omega, fun j z hj _ => absurd hj (by omega)⟩, h⟩
 ·intro i
  refine jc_and (fun hi2 => ?_)
  obtain ⟨hi, hno⟩ := hi2
  refine jsr ?_; refine jy (y_lss rfl rfl) ?_; refine jl_prop (fun h9 => ?_) (fun h9 => ?_)
  ·first | (exfalso; omega) | (
    obtain ⟨bb, oo, rfl, hc⟩ := hps (i) _ (at0_some (show i < (ps).length by omega))
    refine jnt ?_; refine jc_seq ?_; refine jc_true rfl ?_; refine jc_skip ?_; refine jq_then ?_; refine jc_seq ?_; refine jc_block ?_; refine jsr ?_; (iterate 2 refine jz ?_); refine jnt ?_; refine jsr ?_; (iterate 3 refine jz ?_); refine jy (y_indexAddr_slice (off := oo + i) rfl rfl (by omega) (by omega) (by omega)) ?_; refine jy (y_load_old rfl hc (by simp)) ?_; refine jl_pcall rfl (by decide) rfl (goes_value rfl rfl) (fun w1 hw1 => pcall hw1 (odd_any (at0 ps i) w1)) ?_; refine jl_bool (fun h16 => ?_) (fun h16 => ?_)
    ·skip
     refine jnt ?_; refine jc_true rfl ?_; refine jsr ?_; (iterate 2 refine jz ?_); refine jnt ?_; refine jc_ret ?_; refine jq_block_ret ?_; (iterate 2 refine jq_then_ret ?_); refine jq_block_ret ?_; refine jq_then_ret ?_; refine jq_ret1 rfl rfl ?_; exact fun _ hw => ⟨by rw [idx_hit hno (at0_some (by omega)) h16], hw.ch⟩
    ·skip
     refine jnt ?_; refine jc_false rfl ?_; refine jc_skip ?_; refine jq_block ?_; refine jq_then ?_; refine jc_region ?_; refine jy (yaf rfl rfl) ?_; refine jz ?_; refine jl_nil ?_; refine jq_round (i := i) (i + 1) ?_ ?_ ?_
     ·omega
     ·exact ⟨rfl, rfl, rfl, lk_int rfl (by omega), trivial⟩
     ·exact fun _ h => ⟨⟨by omega, fun j z hj hz => (Nat.lt_succ_iff_lt_or_eq.1 hj).elim (fun h2 => hno j z h2 hz) (fun e => by subst e; rw [at0_some (by omega)] at hz; cases hz; exact h16)⟩, h⟩
    )
  ·first | (exfalso; omega) | (refine jnt ?_; refine jc_seq ?_; refine jc_false rfl ?_; refine jc_exit ?_; (iterate 2 refine jq_then_exit ?_); refine jq_hit ?_; refine jq_then ?_; refine jsr ?_; refine jz ?_; refine jnt ?_; refine jc_ret ?_; refine jq_ret1 rfl rfl ?_; exact fun _ hw => ⟨by rw [idx_none (fun j z hj => hno j z (by omega))], hw.ch⟩)

theorem hasOdd_any (ad : Option Addr) (c : Nat) (ps : List ByteArray) (w : World) (hl : ps.length ≤ 1000000) (hps : Strs w ad ps) :
  Calls Tryz.prog 114 #[.slice ad ps.length c, .func (.func 102) #[] #[]] w fun e w' => e = .returned (.bool (ps.any oddB)) ∧ Ch [] w w' := by
 refine calls_of (n := 9) (E := [(0, .slice ad ps.length c), (1, .func (.func 102) #[] #[])]) (W := Hp w [] []) Tryz.func114 rfl rfl (Nat.le_of_ble_eq_true rfl) rfl (Hp.nil _ _) ?_; refine jsr ?_; refine jz ?_; refine jnt ?_; refine jsr ?_; (iterate 2 refine jz ?_); refine jpc (goes_func rfl) (fun w1 hw1 => idxOdd_any _ _ _ w1 (by omega) (hps.keep hw1)) ?_; refine jy (y_geq rfl rfl) ?_; refine jl_as (u := .bool (ps.any oddB)) (congrArg Value.bool (idx_any oddB ps)) ?_; refine jz ?_; refine jnt ?_; refine jc_ret ?_; refine jq_ret1 rfl rfl ?_; exact fun _ hw => ⟨rfl, hw.ch⟩

theorem node_any (a b : ByteArray) (w : World) (ha : a.size ≤ 1000000) (hb : b.size ≤ 1000000) :
  Calls Tryz.prog 116 #[.string a, .string b] w fun e w' => e = .returned (.string (nodeS a b)) ∧ Ch [] w w' := by
 refine calls_of (n := 9) (E := [(0, .string a), (1, .string b)]) (W := Hp w [] []) Tryz.func116 rfl rfl (Nat.le_of_ble_eq_true rfl) rfl (Hp.nil _ _) ?_; refine jsr ?_; refine jz ?_; refine jnt ?_; refine jsr ?_; (iterate 2 refine jz ?_); refine jl_m rfl (by decide) rfl (m_buildSlice (by decide) (Built.cell rfl rfl rfl (by repeat constructor) (Built.cell rfl rfl rfl (by repeat constructor) Built.nil))) (fun b7 => ?_); refine jpc (goes_func rfl) (fun w1 hw1 => tag_any strNode (some ⟨b7, 0, none⟩) 2 [a, b] w1 (by decide) (by simp) (all2 (ha) (hb)) (Strs.of_row (hw1.get mem0))) ?_; refine jz ?_; refine jnt ?_; refine jc_ret ?_; refine jq_ret1 rfl rfl ?_; exact fun _ hw => ⟨rfl, hw.ch⟩

theorem topped_any (h : Int) (x : ByteArray) (w : World) (hx : x.size ≤ 1000000) :
  Calls Tryz.prog 93 #[.int .i64 h, .string x] w fun e w' => e = .returned (.string (topS h x)) ∧ Ch [] w w' := by
 refine calls_of (n := 10) (E := [(0, .int .i64 h), (1, .string x)]) (W := Hp w [] []) Tryz.func93 rfl rfl (Nat.le_of_ble_eq_true rfl) rfl (Hp.nil _ _) ?_; refine jsr ?_; refine jz ?_; refine jnt ?_; refine jsr ?_; refine jz ?_; refine jpc (goes_func rfl) (fun w1 hw1 => mone_any _ w1) ?_; refine jz ?_; refine jl_m rfl (by decide) rfl (m_buildSlice (by decide) (Built.cell rfl rfl rfl (by repeat constructor) (Built.cell rfl rfl rfl (by repeat constructor) Built.nil))) (fun b8 => ?_); refine jpc (goes_func rfl) (fun w1 hw1 => tag_any strRoot (some ⟨b8, 0, none⟩) 2 [oneB h, x] w1 (by decide) (by simp) (all2 (by rw [oneB_size]; decide) (hx)) (Strs.of_row (hw1.get mem0))) ?_; refine jz ?_; refine jnt ?_; refine jc_ret ?_; refine jq_ret1 rfl rfl ?_; exact fun _ hw => ⟨rfl, hw.ch⟩


def UpSpec (k : Nat) : Prop := ∀ (b4 b5 : Nat) (ad : Option Addr) (n c : Nat) (vs : List Value) (adr : Option Addr) (cr : Nat) (r : List ByteArray) (w : World), r.length = 2 ^ k → k ≤ 4 → n + k ≤ 100 → (∀ p ∈ r, p.size = 16) → Strs w adr r → (∀ b o, adr = some ⟨b, o, none⟩ → b ∉ b4 :: rowBlk ad) →
  Hp w (b4 :: rowBlk ad) [.cells b4 [.slice ad n c], .row ad n c 103 1 vs] w → CellAt w b5 0 (.func (.func 115) #[] #[.pointer (some ⟨b4, 0, none⟩), .pointer (some ⟨b5, 0, none⟩)]) → b5 ∉ b4 :: rowBlk ad →
  Calls Tryz.prog 115 #[.slice adr r.length cr, .pointer (some ⟨b4, 0, none⟩), .pointer (some ⟨b5, 0, none⟩)] w fun e w' => e = .returned (.tuple #[]) ∧
    ∃ q : Option Addr × Nat × List Value, Hp w (b4 :: rowBlk ad) [.cells b4 [.slice q.1 (n + k + 1) q.2.1], .row q.1 (n + k + 1) q.2.1 103 1 (vs ++ q.2.2)] w' ∧ RowVals w' q.2.2 (rowsL r k)
theorem up_step (k : Nat) (IH : ∀ k', k' < k → UpSpec k') (b4 b5 : Nat) (ad : Option Addr) (n c : Nat) (vs : List Value) (adr : Option Addr) (cr : Nat) (r : List ByteArray) (w : World) (hlen : r.length = 2 ^ k) (hk4 : k ≤ 4) (hnk : n + k ≤ 100) (hrs : ∀ p ∈ r, p.size = 16) (hps : Strs w adr r) (hdis : ∀ b o, adr = some ⟨b, o, none⟩ → b ∉ b4 :: rowBlk ad) (h0 : Hp w (b4 :: rowBlk ad) [.cells b4 [.slice ad n c], .row ad n c 103 1 vs] w) (hb5 : CellAt w b5 0 (.func (.func 115) #[] #[.pointer (some ⟨b4, 0, none⟩), .pointer (some ⟨b5, 0, none⟩)])) (hb5S : b5 ∉ b4 :: rowBlk ad) :
  Calls Tryz.prog 115 #[.slice adr r.length cr, .pointer (some ⟨b4, 0, none⟩), .pointer (some ⟨b5, 0, none⟩)] w fun e w' => e = .returned (.tuple #[]) ∧ ∃ q : Option Addr × Nat × List Value, Hp w (b4 :: rowBlk ad) [.cells b4 [.slice q.1 (n + k + 1) q.2.1], .row q.1 (n + k + 1) q.2.1 103 1 (vs ++ q.2.2)] w' ∧ RowVals w' q.2.2 (rowsL r k) := by
 have hp16 := pow_le16 hk4
 have hsm : ∀ j, j < r.length → (at0 r j).size ≤ 1000000 := fun j hj => by rw [hrs _ (at0_mem hj)]; decide
 refine calls_of (n := 35) (E := [(0, .slice adr r.length cr), (1, .pointer (some ⟨b4, 0, none⟩)), (2, .pointer (some ⟨b5, 0, none⟩))]) (W := Hp w (b4 :: rowBlk ad) [.cells b4 [.slice ad n c], .row ad n c 103 1 vs]) Tryz.func115 rfl rfl (Nat.le_of_ble_eq_true rfl) rfl h0 ?_; refine jsr ?_; (iterate 2 refine jz ?_); refine jl_m rfl (by decide) rfl (m_buildSlice (by decide) (Built.cell rfl rfl rfl (by repeat constructor) Built.nil)) (fun b8 => ?_); refine jl_m2 rfl (by decide) rfl (m_append rfl rfl (by first | exact del0 | exact del1 | exact del2 | exact del3 | exact del4) (by first | exact del0 | exact del1 | exact del2 | exact del3 | exact del4) rfl (by omega) (by omega)) (fun a9 c9 => ?_); refine jst ?_; refine jnt ?_; refine jc_seq ?_; refine jc_world (fun _ h => h.nilrow 9 1) ?_; refine jc_region ?_; refine jz ?_; refine jnt ?_; refine jc_seq ?_; refine jsr ?_; refine jz ?_; refine jnt ?_; refine jc_block ?_; refine jc_loop3 (fun (i : Nat) (adn : Option Addr) (cn : Nat) => [(0, .slice adr r.length cr), (1, .pointer (some ⟨b4, 0, none⟩)), (2, .pointer (some ⟨b5, 0, none⟩)), (4, .slice adn i cn), (5, .int .i64 (2 * (i : Nat) + 1))]) (fun (i : Nat) (adn : Option Addr) (cn : Nat) => fun w' => i ≤ r.length / 2 ∧ Hp w ((b4 :: rowBlk ad)) [.row (adn) (i) (cn) 9 1 (((aboveL r).take i).map .string), .row a9 (n + 1) c9 103 1 (vs ++ [.slice adr r.length cr]), .cells b4 [.slice a9 (n + 1) c9]] w') (fun (i : Nat) (adn : Option Addr) (cn : Nat) => r.length / 2 - i) 0 none 0 ?_ ?_ ?_
 ·exact ⟨rfl, rfl, rfl, rfl, rfl, trivial⟩
 ·exact fun _ h => ⟨by omega, h⟩
 ·intro i adn cn
  refine jc_and (fun hi => ?_); refine jc_seq ?_; refine jsr ?_; (iterate 2 refine jz ?_); refine jy (y_len_slice rfl) ?_; refine jy (y_lss rfl rfl) ?_; refine jl_prop (fun h13 => ?_) (fun h13 => ?_)
  ·first | (exfalso; omega) | (
    obtain ⟨bb, oo, rfl, hc⟩ := hps (2 * i) _ (at0_some (show 2 * i < (r).length by omega))
    have hc2 := strs_at' hps (at0_some (show 2 * i + 1 < r.length by omega))
    have hb0 := hdis bb oo rfl
    have hs0 := hsm (2 * i) (by omega)
    have hs1 := hsm (2 * i + 1) (by omega)
    refine jnt ?_; refine jc_true rfl ?_; refine jc_skip ?_; refine jq_then ?_; refine jc_seq ?_; refine jc_block ?_; refine jc_sched 12 [(0, true), (1, true), (2, true), (3, true), (4, true), (5, true), (6, true), (7, true), (8, true), (9, true), (10, false), (11, false)] rfl (by kernel_rfl) (fun _ _ _ _ h => h) (fun _ h => h.drew) ?_
    simp only [pickO, nthO, List.drop_succ_cons, List.drop_zero]
    (iterate 3 refine jkz ?_); refine jky (ysf rfl rfl) ?_; refine jky (y_indexAddr_slice (off := oo + 2 * i) rfl rfl (by omega) (by omega) (by omega)) ?_; refine jky (y_load_old rfl hc hb0) ?_; (iterate 2 refine jkz ?_); refine jky (y_indexAddr_slice (off := oo + (2 * i + 1)) rfl rfl (by omega) (by omega) (by omega)) ?_; refine jky (y_load_old rfl hc2 hb0) ?_; refine js_pcall (by intro _ h; first | exact h | exact h.pop | exact h.pop.pop | exact h.pop.pop.pop | exact h.pop.pop.pop.pop | exact h.pop.pop.pop.pop.pop | exact h.pop.pop.pop.pop.pop.pop | exact h.part .nil) rfl (by decide) rfl (goes_func rfl) (fun w1 hw1 => pcall hw1 (node_any _ _ w1 (by omega) (by omega))) ?_; refine js_m (by intros; rename_i h; first | exact h | exact h.pop | exact h.pop.pop | exact h.pop.pop.pop | exact h.pop.pop.pop.pop | exact h.pop.pop.pop.pop.pop | exact h.pop.pop.pop.pop.pop.pop | exact h.part .nil) rfl (by decide) rfl (m_buildSlice (by decide) (Built.cell rfl rfl rfl (by repeat constructor) Built.nil)) (fun b27 => ?_); refine js_nil ?_; refine jl_m2 rfl (by decide) rfl (m_append rfl rfl (by first | exact del0 | exact del1 | exact del2 | exact del3 | exact del4) (by first | exact del0 | exact del1 | exact del2 | exact del3 | exact del4) rfl (by omega) (by omega)) (fun a28 c28 => ?_); refine jz ?_; refine jl_nil ?_; refine jq_block ?_; refine jq_then ?_; refine jc_region ?_; refine jz ?_; refine jy (yaf rfl rfl) ?_; refine jz ?_; refine jl_nil ?_; refine jq_round3 (i := i) (j := adn) (l := cn) (i + 1) a28 c28 ?_ ?_ ?_
    ·omega
    ·exact ⟨rfl, rfl, rfl, rfl, lk_int rfl (by omega), trivial⟩
    ·exact fun _ h => ⟨by omega, h.cast (by rw [aboveL_take (by omega), List.map_append]; rfl)⟩
    )
  ·first | (exfalso; omega) | (
    refine jnt ?_; refine jc_false rfl ?_; refine jc_exit ?_; (iterate 2 refine jq_then_exit ?_); refine jq_hit ?_; refine jq_then ?_; refine jc_seq ?_
    have hi2 : i = r.length / 2 := by omega
    refine jc_region ?_; refine jz ?_; refine jy (y_len_slice rfl) ?_; refine jy (y_gtr rfl rfl) ?_; refine jl_prop (fun h31 => ?_) (fun h31 => ?_)
    ·first | (exfalso; omega) | (
      refine jnt ?_; refine jc_true rfl ?_
      have hk0 : k ≠ 0 := by intro hk; subst hk; simp at hlen; omega
      have e1 : i = (aboveL r).length := by rw [aboveL_length]; exact hi2
      obtain ⟨k2, rfl⟩ : ∃ k2, k = k2 + 1 := ⟨k - 1, by omega⟩
      have hpw : r.length / 2 = 2 ^ k2 := by rw [hlen, Nat.pow_succ]; omega
      refine jc_world (fun _ h => h.cast (H' := [.row (adn) (i) (cn) 9 1 ((aboveL r).map .string), .row a9 (n + 1) c9 103 1 (vs ++ [.slice adr r.length cr]), .cells b4 [.slice a9 (n + 1) c9]]) (by rw [List.take_of_length_le (by rw [aboveL_length]; omega)])) ?_; refine jc_region ?_; refine jy (y_load_old rfl hb5 hb5S) ?_; refine jz ?_; refine jl_as (u := .slice adn (aboveL r).length cn) (by rw [← e1]) ?_; refine jl_call (ι := Option Addr × Nat × List Value) (v := fun _ => .tuple #[]) (W' := fun q w' => Hp w ((b4 :: rowBlk ad)) [.cells b4 [.slice q.1 (n + (k2 + 1) + 1) q.2.1], .row q.1 (n + (k2 + 1) + 1) q.2.1 103 1 (vs ++ q.2.2)] w' ∧ RowVals w' q.2.2 (rowsL r (k2 + 1))) rfl (by decide) rfl (goes_value rfl rfl) (fun w1 hw1 => ?_) (fun q => ?_)
      ·have hap := hw1.apart
       simp only [List.pairwise_cons] at hap
       have hS9 : ∀ x ∈ b4 :: rowBlk a9, x ∈ (b4 :: rowBlk ad) ∨ w.heap.size ≤ x := by
        intro x hx
        rcases List.mem_cons.1 hx with rfl | hx
        ·exact .inl (.head _)
        ·obtain ⟨o, bd, rfl⟩ := rowBlk_mem hx
         exact (hw1.own _ mem1 x rfl).symm
       have hlt5 := World.block_lt_of_cell? w _ hb5
       have hrow := hw1.get (A := .row (adn) (i) (cn) 9 1 ((aboveL r).map .string)) mem0
       refine (IH k2 (by omega) b4 b5 a9 (n + 1) c9 (vs ++ [.slice adr r.length cr]) adn cn (aboveL r) w1 (by rw [aboveL_length, hpw]) (by omega) (by omega) aboveL_size (Strs.of_own hrow) ?_ ((hw1.part (.cons del2 (.cons del1 .nil))).here _ ?_) (hw1.cell hb5 hb5S) ?_).mono ?_
       ·intro b o e hm
        subst e
        rcases List.mem_cons.1 hm with rfl | hm
        ·exact hap.1 _ (.tail _ (.head _)) _ rfl rfl
        ·obtain ⟨o, bd, rfl⟩ := rowBlk_mem hm
         exact hap.1 _ (.head _) _ rfl rfl
       ·intro A hA x hx
        simp only [List.mem_cons, List.not_mem_nil, or_false] at hA
        rcases hA with rfl | rfl
        ·cases hx; exact .head _
        ·exact .tail _ (rowBlk_foot hx)
       ·intro hm
        rcases List.mem_cons.1 hm with rfl | hm
        ·exact hb5S (.head _)
        ·obtain ⟨o, bd, rfl⟩ := rowBlk_mem hm
         rcases hw1.own _ mem1 b5 rfl with h1 | h1
         ·exact absurd h1 (by have : b5 < w.heap.size := hlt5; omega)
         ·exact hb5S h1
       ·rintro e w' ⟨he, q, hq1, hq2⟩
        have hall := hw1.then hq1 hS9
        refine ⟨(q.1, q.2.1, .slice adr r.length cr :: q.2.2), he, ?_, ?_⟩
        ·rw [show n + 1 + k2 + 1 = n + (k2 + 1) + 1 by omega, List.append_assoc] at hall
         exact hall
        ·rw [rowsL_succ]
         exact hq2.cons (hall.strs hps hdis)
      refine jl_nil ?_; refine jq_end0 rfl ?_; exact fun w' hw => ⟨rfl, q, hw.1, hw.2⟩
      )
    ·first | (exfalso; omega) | (
      refine jnt ?_; refine jc_false rfl ?_; refine jc_skip ?_; refine jq_end0 rfl ?_
      exact fun w' hw => ⟨rfl, (a9, c9, [.slice adr r.length cr]), by
       have hk0 : k = 0 := pow_one_zero (by omega)
       subst hk0
       exact ⟨hw.part (.cons del2 (.cons del1 .nil)), (show RowVals w' [] [] from fun j r h => by simp at h).cons ((hw.strs hps hdis))⟩⟩
      )
    )

theorem up_all : ∀ k, UpSpec k := fun k => Nat.strongRecOn k fun k IH b4 b5 ad n c vs adr cr r w h1 h2 h3 h4 h5 h6 h7 h8 h9 => up_step k IH b4 b5 ad n c vs adr cr r w h1 h2 h3 h4 h5 h6 h7 h8 h9
theorem rows_ok (ad : Option Addr) (c : Nat) (ps : List ByteArray) (w : World) (hl : ps.length ≤ 1000000) (hps : Strs w ad ps) (hok : okL ps) :
  Calls Tryz.prog 92 #[.slice ad ps.length c] w fun e w' => ∃ p : Nat × Nat, e = .returned (.slice (some ⟨p.1, 0, none⟩) (tallL ps + 1) p.2) ∧ Ch [] w w' ∧ RowsAt w' p.1 (rowsL ps (tallL ps)) ∧ tallL ps + 1 ≤ p.2 := by
 obtain ⟨hpw, ht4⟩ := okL_length hok
 have hp16 := pow_le16 ht4
 have hb := (and_pow (n := ps.length) (by omega) (by omega)).2 (by rw [Int.toNat_natCast]; exact hok.1)
 refine calls_of (n := 30) (E := [(0, .slice ad ps.length c)]) (W := Hp w [] []) Tryz.func92 rfl rfl (Nat.le_of_ble_eq_true rfl) rfl (Hp.nil _ _) ?_; refine jsr ?_; refine jz ?_; refine jnt ?_; refine jsr ?_; refine jz ?_; refine jy (y_len_slice rfl) ?_; refine jz ?_; refine jnt ?_; refine jc_seq ?_; refine jsr ?_; refine jz ?_; refine jy (y_lss rfl rfl) ?_; refine jl_prop (fun h9 => ?_) (fun h9 => ?_)
 ·first | (exfalso; omega) | (
   refine jz ?_; (iterate 2 refine jsk ?_); refine jy (y_pick_true rfl rfl) ?_; refine jz ?_; (iterate 5 refine jsk ?_); refine jy (y_pick_true rfl rfl) ?_; refine jz ?_; (iterate 2 refine jsk ?_); refine jy (y_pick_true rfl rfl) ?_; refine jnt ?_; refine jc_true rfl ?_; refine jsr ?_; refine jz ?_; refine jnt ?_; refine jc_ret ?_; refine jq_then_ret ?_; refine jq_ret1 rfl rfl ?_
   exact fun w' hw => by
    have hrow := hbx1.get (A := .row q.1 (tallL ps + 1) q.2.1 103 1 q.2.2) mem1
    obtain ⟨b, hb⟩ := row_some hrow (by omega)
    have hcap := row_cap hrow
    obtain ⟨q1, q2, q3⟩ := q
    simp only at hb hrow hrv hcap
    subst hb
    exact ⟨(b, q2), rfl, hbx1.ch.then hw.ch, RowsAt.keep (fun j r hr => by obtain ⟨adj, cj, h1, h2⟩ := hrv j r hr; exact ⟨adj, cj, row_cell hrow h1, h2⟩) hw, hcap⟩
   )
 ·first | (exfalso; omega) | (
   (iterate 2 refine jz ?_); refine jy (y_gtr rfl rfl) ?_; refine jl_prop (fun h12 => ?_) (fun h12 => ?_)
   ·first | (exfalso; omega) | (
     refine jy (y_pick_false rfl rfl) ?_; refine jz ?_; (iterate 5 refine jsk ?_); refine jy (y_pick_true rfl rfl) ?_; refine jz ?_; (iterate 2 refine jsk ?_); refine jy (y_pick_true rfl rfl) ?_; refine jnt ?_; refine jc_true rfl ?_; refine jsr ?_; refine jz ?_; refine jnt ?_; refine jc_ret ?_; refine jq_then_ret ?_; refine jq_ret1 rfl rfl ?_
     exact fun w' hw => by
      have hrow := hbx1.get (A := .row q.1 (tallL ps + 1) q.2.1 103 1 q.2.2) mem1
      obtain ⟨b, hb⟩ := row_some hrow (by omega)
      have hcap := row_cap hrow
      obtain ⟨q1, q2, q3⟩ := q
      simp only at hb hrow hrv hcap
      subst hb
      exact ⟨(b, q2), rfl, hbx1.ch.then hw.ch, RowsAt.keep (fun j r hr => by obtain ⟨adj, cj, h1, h2⟩ := hrv j r hr; exact ⟨adj, cj, row_cell hrow h1, h2⟩) hw, hcap⟩
     )
   ·first | (exfalso; omega) | (
     refine jy (y_pick_false rfl rfl) ?_; (iterate 3 refine jz ?_); refine jy (ysf rfl rfl) ?_; refine jy (y_and rfl rfl) ?_; refine jy (y_neq rfl rfl) ?_; refine jl_prop (fun h19 => ?_) (fun h19 => ?_)
     ·first | (exfalso; omega) | (
       refine jy (y_pick_false rfl rfl) ?_; refine jz ?_; (iterate 2 refine jsk ?_); refine jy (y_pick_true rfl rfl) ?_; refine jnt ?_; refine jc_true rfl ?_; refine jsr ?_; refine jz ?_; refine jnt ?_; refine jc_ret ?_; refine jq_then_ret ?_; refine jq_ret1 rfl rfl ?_
       exact fun w' hw => by
        have hrow := hbx1.get (A := .row q.1 (tallL ps + 1) q.2.1 103 1 q.2.2) mem1
        obtain ⟨b, hb⟩ := row_some hrow (by omega)
        have hcap := row_cap hrow
        obtain ⟨q1, q2, q3⟩ := q
        simp only at hb hrow hrv hcap
        subst hb
        exact ⟨(b, q2), rfl, hbx1.ch.then hw.ch, RowsAt.keep (fun j r hr => by obtain ⟨adj, cj, h1, h2⟩ := hrv j r hr; exact ⟨adj, cj, row_cell hrow h1, h2⟩) hw, hcap⟩
       )
     ·first | (exfalso; omega) | (
       refine jy (y_pick_false rfl rfl) ?_; (iterate 2 refine jz ?_); refine jpc (goes_func rfl) (fun w1 hw1 => hasOdd_any _ _ _ w1 (by omega) (hps.keep hw1)) ?_; refine jl_as (u := .bool false) (congrArg Value.bool (any_even hok.2)) ?_; refine jy (y_pick_false rfl rfl) ?_; refine jnt ?_; refine jc_false rfl ?_; refine jc_skip ?_; refine jq_then ?_; refine jsr ?_; refine jl_m rfl (by decide) rfl (m_alloc) (fun b4 => ?_); refine jnt ?_; refine jsr ?_; refine jl_m rfl (by decide) rfl (m_alloc) (fun b5 => ?_); refine jnt ?_; refine jsr ?_; refine jy (y_makeFunc rfl rfl) ?_; refine jst ?_; refine jnt ?_; refine jsr ?_; (iterate 2 refine jz ?_); refine jl_call (ι := Option Addr × Nat × List Value) (v := fun _ => .tuple #[]) (W' := fun q w' => Hp w [] [.cells b4 [.slice q.1 (tallL ps + 1) q.2.1], .row q.1 (tallL ps + 1) q.2.1 103 1 q.2.2] w' ∧ RowVals w' q.2.2 (rowsL ps (tallL ps))) rfl (by decide) rfl (goes_value rfl rfl) (fun w1 hw1 => ?_) (fun q => ?_)
       ·have hap := hw1.apart
        simp only [List.pairwise_cons] at hap
        have hown := hw1.own (.cells b4 [.slice none 0 0]) (by first | exact mem1 | exact mem0) b4 rfl
        have hne : b5 ≠ b4 := fun e => hap.1 _ (.head _) b5 rfl (by rw [e]; rfl)
        refine (up_all (tallL ps) b4 b5 none 0 0 [] ad c ps w1 hpw ht4 (by omega) hok.2 (hps.keep hw1) ?_ (((hw1.part (.cons del1 .nil)).here [b4] (by intro A hA x hx; simp only [List.mem_cons, List.not_mem_nil, or_false] at hA; subst hA; cases hx; simp)).nilrow 103 1 |>.perm (List.Perm.swap _ _ _)) (CellAt.of_cells (hw1.get mem0) rfl) (by simpa [rowBlk] using hne)).mono ?_
        ·intro b o e hm
         subst e
         have hm2 : b = b4 := by simpa [rowBlk] using hm
         subst hm2
         obtain ⟨bb, oo, e2, hc⟩ := hps 0 _ (at0_some (show 0 < ps.length by omega))
         cases e2
         have := World.block_lt_of_cell? w _ hc
         rcases hown with h1 | h1
         ·exact absurd h1 (by have h2 : b < w.heap.size := this; omega)
         ·cases h1
        ·rintro e w' ⟨he, q, hq1, hq2⟩
         refine ⟨q, he, ?_, hq2⟩
         have h3 := hw1.then hq1 (by intro x hx; have : x = b4 := (by simpa [rowBlk] using hx); subst this; exact hown.symm)
         rw [show 0 + tallL ps + 1 = tallL ps + 1 by omega] at h3
         exact h3
       refine jnt ?_; refine jc_seq ?_; refine jc_rebase (fun wx hbx => ?_)
       obtain ⟨hbx1, hrv⟩ := hbx
       have hc4 := CellAt.of_cells (hbx1.get (A := .cells b4 [.slice q.1 (tallL ps + 1) q.2.1]) mem0) (o := 0) rfl
       refine jc_region ?_; refine jy (y_load_old rfl hc4 (by simp)) ?_; refine jz ?_; refine jnt ?_; refine jc_ret ?_; refine jq_ret1 rfl rfl ?_
       exact fun w' hw => by
        have hrow := hbx1.get (A := .row q.1 (tallL ps + 1) q.2.1 103 1 q.2.2) mem1
        obtain ⟨b, hb⟩ := row_some hrow (by omega)
        have hcap := row_cap hrow
        obtain ⟨q1, q2, q3⟩ := q
        simp only at hb hrow hrv hcap
        subst hb
        exact ⟨(b, q2), rfl, hbx1.ch.then hw.ch, RowsAt.keep (fun j r hr => by obtain ⟨adj, cj, h1, h2⟩ := hrv j r hr; exact ⟨adj, cj, row_cell hrow h1, h2⟩) hw, hcap⟩
       )
     )
   )

theorem rows_bad (ad : Option Addr) (c : Nat) (ps : List ByteArray) (w : World) (hl : ps.length ≤ 1000000) (hps : Strs w ad ps) (hbad : ¬ okL ps) :
  Calls Tryz.prog 92 #[.slice ad ps.length c] w fun e w' => e = .returned (.slice none 0 0) ∧ Ch [] w w' := by
 refine calls_of (n := 30) (E := [(0, .slice ad ps.length c)]) (W := Hp w [] []) Tryz.func92 rfl rfl (Nat.le_of_ble_eq_true rfl) rfl (Hp.nil _ _) ?_; refine jsr ?_; refine jz ?_; refine jnt ?_; refine jsr ?_; refine jz ?_; refine jy (y_len_slice rfl) ?_; refine jz ?_; refine jnt ?_; refine jc_seq ?_; refine jsr ?_; refine jz ?_; refine jy (y_lss rfl rfl) ?_; refine jl_prop (fun h9 => ?_) (fun h9 => ?_)
 ·first | (exfalso; omega) | (refine jz ?_; (iterate 2 refine jsk ?_); refine jy (y_pick_true rfl rfl) ?_; refine jz ?_; (iterate 5 refine jsk ?_); refine jy (y_pick_true rfl rfl) ?_; refine jz ?_; (iterate 2 refine jsk ?_); refine jy (y_pick_true rfl rfl) ?_; refine jnt ?_; refine jc_true rfl ?_; refine jsr ?_; refine jz ?_; refine jnt ?_; refine jc_ret ?_; refine jq_then_ret ?_; refine jq_ret1 rfl rfl ?_; exact fun _ hw => ⟨rfl, hw.ch⟩)
 ·first | (exfalso; omega) | (
   (iterate 2 refine jz ?_); refine jy (y_gtr rfl rfl) ?_; refine jl_prop (fun h12 => ?_) (fun h12 => ?_)
   ·first | (exfalso; omega) | (refine jy (y_pick_false rfl rfl) ?_; refine jz ?_; (iterate 5 refine jsk ?_); refine jy (y_pick_true rfl rfl) ?_; refine jz ?_; (iterate 2 refine jsk ?_); refine jy (y_pick_true rfl rfl) ?_; refine jnt ?_; refine jc_true rfl ?_; refine jsr ?_; refine jz ?_; refine jnt ?_; refine jc_ret ?_; refine jq_then_ret ?_; refine jq_ret1 rfl rfl ?_; exact fun _ hw => ⟨rfl, hw.ch⟩)
   ·first | (exfalso; omega) | (
     refine jy (y_pick_false rfl rfl) ?_; (iterate 3 refine jz ?_); refine jy (ysf rfl rfl) ?_; refine jy (y_and rfl rfl) ?_; refine jy (y_neq rfl rfl) ?_; refine jl_prop (fun h19 => ?_) (fun h19 => ?_)
     ·first | (exfalso; omega) | (refine jy (y_pick_false rfl rfl) ?_; refine jz ?_; (iterate 2 refine jsk ?_); refine jy (y_pick_true rfl rfl) ?_; refine jnt ?_; refine jc_true rfl ?_; refine jsr ?_; refine jz ?_; refine jnt ?_; refine jc_ret ?_; refine jq_then_ret ?_; refine jq_ret1 rfl rfl ?_; exact fun _ hw => ⟨rfl, hw.ch⟩)
     ·first | (exfalso; omega) | (
       refine jy (y_pick_false rfl rfl) ?_; (iterate 2 refine jz ?_); refine jpc (goes_func rfl) (fun w1 hw1 => hasOdd_any _ _ _ w1 (by omega) (hps.keep hw1)) ?_; refine jl_bool (fun h23 => ?_) (fun h23 => ?_)
       ·skip
        refine jy (y_pick_false rfl rfl) ?_; refine jnt ?_; refine jc_true rfl ?_; refine jsr ?_; refine jz ?_; refine jnt ?_; refine jc_ret ?_; refine jq_then_ret ?_; refine jq_ret1 rfl rfl ?_; exact fun _ hw => ⟨rfl, hw.ch⟩
       ·exact absurd ⟨by have := (and_pow (n := ps.length) (by omega) (by omega)).1 (by omega); rw [Int.toNat_natCast] at this; exact this, any_size h23⟩ hbad
       )
     )
   )

theorem root1_ok (ad : Option Addr) (c : Nat) (ps : List ByteArray) (w : World) (hl : ps.length ≤ 1000000) (hps : Strs w ad ps) (hok : okL ps) :
  Calls Tryz.prog 65 #[.slice ad ps.length c] w fun e w' => e = .returned (.tuple #[.string (rootS ps), .int .i64 (rootE ps)]) ∧ Ch [] w w' := by
 obtain ⟨hpw, ht4⟩ := okL_length hok
 have h1 := row_last hpw
 refine calls_of (n := 21) (E := [(0, .slice ad ps.length c)]) (W := Hp w [] []) Tryz.func65 rfl rfl (Nat.le_of_ble_eq_true rfl) rfl (Hp.nil _ _) ?_; refine jsr ?_; (iterate 2 refine jz ?_); refine jnt ?_; refine jsr ?_; refine jz ?_; refine jl_kcall rfl (by decide) rfl (goes_func rfl) (fun w1 hw1 => rows_ok _ _ _ w1 (by omega) (hps.keep hw1) hok) (fun pr wr hbr ⟨hrr, hcap⟩ => ?_); refine jz ?_; refine jnt ?_; refine jc_seq ?_; refine jsr ?_; refine jz ?_; refine jy (y_eql_snil rfl rfl) ?_; refine jl_as (u := .bool false) rfl ?_; refine jnt ?_; refine jc_false rfl ?_; refine jc_skip ?_; refine jq_then ?_; refine jc_seq ?_
 obtain ⟨adj, cj, hcj, hsj⟩ := hrr (tallL ps) _ (rowsL_at (Nat.le_refl _))
 obtain ⟨bb, oo, rfl, hc⟩ := hsj 0 _ (at0_some (by omega))
 have hsz := rowN_size hok.2 (tallL ps) _ (at0_mem (show 0 < (rowN ps (tallL ps)).length by omega))
 refine jc_region ?_; refine jz ?_; refine jy (y_len_slice rfl) ?_; refine jy (ysf rfl rfl) ?_; refine jl_as (u := .int .i64 ((tallL ps : Nat) : Int)) (congrArg _ (by omega)) ?_; (iterate 2 refine jz ?_); refine jy (y_len_slice rfl) ?_; refine jy (ysf rfl rfl) ?_; refine jl_as (u := .int .i64 ((tallL ps : Nat) : Int)) (congrArg _ (by omega)) ?_; refine jy (y_indexAddr_slice (off := tallL ps) rfl rfl (by omega) (by omega) (by omega)) ?_; refine jy (y_load_old rfl hcj (by simp)) ?_; refine jy (y_indexAddr_slice (off := oo + 0) rfl rfl (by omega) (by omega) (by omega)) ?_; refine jy (y_load_old rfl hc (by simp)) ?_; refine jpc (goes_func rfl) (fun w1 hw1 => topped_any _ _ w1 (by omega)) ?_; (iterate 2 refine jz ?_); refine jnt ?_; refine jc_ret ?_; refine jq_ret2 rfl rfl rfl ?_; exact fun _ hw => ⟨by rw [(root_ok hok).1, (root_ok hok).2], (hbr.ch.then hw.ch)⟩

theorem root1_bad (ad : Option Addr) (c : Nat) (ps : List ByteArray) (w : World) (hl : ps.length ≤ 1000000) (hps : Strs w ad ps) (hok : ¬ okL ps) :
  Calls Tryz.prog 65 #[.slice ad ps.length c] w fun e w' => e = .returned (.tuple #[.string (rootS ps), .int .i64 (rootE ps)]) ∧ Ch [] w w' := by
 refine calls_of (n := 21) (E := [(0, .slice ad ps.length c)]) (W := Hp w [] []) Tryz.func65 rfl rfl (Nat.le_of_ble_eq_true rfl) rfl (Hp.nil _ _) ?_; refine jsr ?_; (iterate 2 refine jz ?_); refine jnt ?_; refine jsr ?_; refine jz ?_; refine jpc (goes_func rfl) (fun w1 hw1 => rows_bad _ _ _ w1 (by omega) (hps.keep hw1) hok) ?_; refine jz ?_; refine jnt ?_; refine jc_seq ?_; refine jsr ?_; refine jz ?_; refine jy (y_eql_snil rfl rfl) ?_; refine jl_as (u := .bool true) rfl ?_; refine jnt ?_; refine jc_true rfl ?_; refine jsr ?_; (iterate 2 refine jz ?_); refine jnt ?_; refine jc_ret ?_; refine jq_then_ret ?_; refine jq_ret2 rfl rfl rfl ?_; exact fun _ hw => ⟨by rw [(root_bad hok).1, (root_bad hok).2], hw.ch⟩

theorem root1_any (ad : Option Addr) (c : Nat) (ps : List ByteArray) (w : World) (hl : ps.length ≤ 1000000) (hps : Strs w ad ps) : Calls Tryz.prog 65 #[.slice ad ps.length c] w fun e w' => e = .returned (.tuple #[.string (rootS ps), .int .i64 (rootE ps)]) ∧ Ch [] w w' := by
  by_cases hok : okL ps
  · exact root1_ok ad c ps w hl hps hok
  · exact root1_bad ad c ps w hl hps hok
theorem path1_ok (ad : Option Addr) (c : Nat) (ps : List ByteArray) (w : World) (hl : ps.length ≤ 1000000) (hps : Strs w ad ps) (i : Nat) (hok : okL ps) (hi : i < ps.length) :
  Calls Tryz.prog 69 #[.slice ad ps.length c, .int .i64 (i : Nat)] w fun e w' => ∃ p : Option Addr × Nat, e = .returned (.tuple #[.slice p.1 (pathV ps (i : Nat)).length p.2, .int .i64 (pathE ps (i : Nat))]) ∧ Fresh w w' (.row (p.1) ((pathV ps (i : Nat)).length) (p.2) 9 1 ((pathV ps (i : Nat)).map .string)) := by
 obtain ⟨hpw, ht4⟩ := okL_length hok
 have hp16 := pow_le16 ht4
 have hpo := @path_ok ps (i : Nat) ⟨hok, by omega, by omega⟩
 rw [Int.toNat_natCast] at hpo
 refine calls_of (n := 46) (E := [(0, .slice ad ps.length c), (1, .int .i64 (i : Nat))]) (W := Hp w [] []) Tryz.func69 rfl rfl (Nat.le_of_ble_eq_true rfl) rfl (Hp.nil _ _) ?_; refine jsr ?_; (iterate 2 refine jz ?_); refine jnt ?_; refine jsr ?_; refine jz ?_; refine jl_kcall rfl (by decide) rfl (goes_func rfl) (fun w1 hw1 => rows_ok _ _ _ w1 (by omega) (hps.keep hw1) hok) (fun pr wr hbr ⟨hrr, hcap⟩ => ?_); refine jz ?_; refine jnt ?_; refine jc_seq ?_; refine jsr ?_; refine jz ?_; refine jy (y_eql_snil rfl rfl) ?_; refine jl_as (u := .bool false) rfl ?_; (iterate 2 refine jz ?_); refine jy (y_lss rfl rfl) ?_; refine jl_prop (fun h16 => ?_) (fun h16 => ?_)
 ·first | (exfalso; omega) | (
   refine jy (y_pick_false rfl rfl) ?_; refine jz ?_; (iterate 4 refine jsk ?_); refine jy (y_pick_true rfl rfl) ?_; refine jnt ?_; refine jc_true rfl ?_; refine jsr ?_; (iterate 2 refine jz ?_); refine jnt ?_; refine jc_ret ?_; refine jq_then_ret ?_; refine jq_ret2 rfl rfl rfl ?_
   exact fun w' hw => by
    have e : j = tallL ps := (by omega)
    subst e
    rw [hpo.1, hpo.2, pathN_length]
    exact ⟨(adp, cp), rfl, (hbr.over hw).fresh⟩
   )
 ·first | (exfalso; omega) | (
   refine jy (y_pick_false rfl rfl) ?_; (iterate 3 refine jz ?_); refine jy (y_len_slice rfl) ?_; refine jy (y_geq rfl rfl) ?_; refine jl_prop (fun h22 => ?_) (fun h22 => ?_)
   ·first | (exfalso; omega) | (
     refine jy (y_pick_false rfl rfl) ?_; refine jnt ?_; refine jc_true rfl ?_; refine jsr ?_; (iterate 2 refine jz ?_); refine jnt ?_; refine jc_ret ?_; refine jq_then_ret ?_; refine jq_ret2 rfl rfl rfl ?_
     exact fun w' hw => by
      have e : j = tallL ps := (by omega)
      subst e
      rw [hpo.1, hpo.2, pathN_length]
      exact ⟨(adp, cp), rfl, (hbr.over hw).fresh⟩
     )
   ·first | (exfalso; omega) | (
     refine jy (y_pick_false rfl rfl) ?_; refine jnt ?_; refine jc_false rfl ?_; refine jc_skip ?_; refine jq_then ?_; refine jc_seq ?_; refine jc_world (fun _ h => h.nilrow 9 1) ?_; refine jc_region ?_; refine jz ?_; refine jnt ?_; refine jc_seq ?_; refine jsr ?_; (iterate 2 refine jz ?_); refine jy (y_len_slice rfl) ?_; refine jy (ysf rfl rfl) ?_; refine jl_as (u := .int .i64 ((tallL ps : Nat) : Int)) (congrArg _ (by omega)) ?_; refine jy (y_part_hi rfl rfl (by omega) (by omega)) ?_; refine jl_as (u := .slice (some ⟨pr.1, 0, none⟩) (tallL ps) pr.2) (by first | rfl | (congr 1; done) | (congr 1; omega)) ?_; refine jy (y_len_slice rfl) ?_; refine jz ?_; refine jnt ?_; refine jc_block ?_; refine jc_loop3 (fun (j : Nat) (adp : Option Addr) (cp : Nat) => [(1, .int .i64 ((i / 2 ^ j : Nat) : Int)), (7, .slice adp j cp), (28, .slice (some ⟨pr.1, 0, none⟩) (tallL ps) pr.2), (29, .int .i64 ((tallL ps : Nat) : Int)), (30, .int .i64 (j : Nat))]) (fun (j : Nat) (adp : Option Addr) (cp : Nat) => fun w' => j ≤ tallL ps ∧ Hp wr [] [.row (adp) (j) (cp) 9 1 ((pathN ps i j).map .string)] w') (fun (j : Nat) (adp : Option Addr) (cp : Nat) => tallL ps - j) 0 none 0 ?_ ?_ ?_
     ·exact ⟨lk_int rfl (by simp), rfl, rfl, rfl, rfl, trivial⟩
     ·exact fun _ h => ⟨by omega, h⟩
     ·intro j adp cp
      refine jc_and (fun hj => ?_); refine jsr ?_; refine jy (y_lss rfl rfl) ?_; refine jl_prop (fun h31 => ?_) (fun h31 => ?_)
      ·first | (exfalso; omega) | (
        obtain ⟨adj, cj, hcj, hsj⟩ := hrr j _ (rowsL_at (show j ≤ tallL ps by omega))
        have hsl := sib_lt hpw hi (show j < tallL ps by omega)
        obtain ⟨bb, oo, rfl, hc⟩ := hsj (sib (i / 2 ^ j)) _ (at0_some hsl)
        have hds := @div_small i j 16 (by omega)
        refine jnt ?_; refine jc_seq ?_; refine jc_true rfl ?_; refine jc_skip ?_; refine jq_then ?_; refine jc_seq ?_; refine jc_block ?_; refine jsr ?_; refine jy (y_indexAddr_slice (off := j) rfl rfl (by omega) (by omega) (by omega)) ?_; refine jy (y_load_old rfl hcj (by simp)) ?_; refine jz ?_; refine jnt ?_; refine jsr ?_; (iterate 3 refine jz ?_); refine jy (y_xor rfl rfl) ?_; refine jl_as (u := .int .i64 ((sib (i / 2 ^ j) : Nat) : Int)) (congrArg _ (xor_one hds)) ?_; refine jy (y_indexAddr_slice (off := oo + sib (i / 2 ^ j)) rfl rfl (by omega) (by omega) (by omega)) ?_; refine jy (y_load_old rfl hc (by simp)) ?_; refine jl_m rfl (by decide) rfl (m_buildSlice (by decide) (Built.cell rfl rfl rfl (by repeat constructor) Built.nil)) (fun b40 => ?_); refine jl_m2 rfl (by decide) rfl (m_append rfl rfl (by first | exact del0 | exact del1 | exact del2 | exact del3 | exact del4) (by first | exact del0 | exact del1 | exact del2 | exact del3 | exact del4) rfl (by omega) (by omega)) (fun a41 c41 => ?_); refine jz ?_; refine jnt ?_; refine jc_region ?_; refine jz ?_; refine jy (y_shr_by (m := 2) rfl rfl (by decide) (by decide) (by decide)) ?_; refine jl_as (congrArg _ (half_step i j)) ?_; refine jz ?_; refine jl_nil ?_; refine jq_block ?_; refine jq_then ?_; refine jc_region ?_; refine jy (yaf rfl rfl) ?_; refine jz ?_; refine jl_nil ?_; refine jq_round3 (i := j) (j := adp) (l := cp) (j + 1) a41 c41 ?_ ?_ ?_
        ·omega
        ·exact ⟨rfl, rfl, rfl, rfl, lk_int rfl (by omega), trivial⟩
        ·exact fun _ h => ⟨by omega, h.cast (by rw [pathN_succ, List.map_append]; rfl)⟩
        )
      ·first | (exfalso; omega) | (
        refine jnt ?_; refine jc_seq ?_; refine jc_false rfl ?_; refine jc_exit ?_; (iterate 2 refine jq_then_exit ?_); refine jq_hit ?_; refine jq_then ?_; refine jsr ?_; (iterate 3 refine jz ?_); refine jnt ?_; refine jc_ret ?_; refine jq_ret2 rfl rfl rfl ?_
        exact fun w' hw => by
         have e : j = tallL ps := (by omega)
         subst e
         rw [hpo.1, hpo.2, pathN_length]
         exact ⟨(adp, cp), rfl, (hbr.over hw).fresh⟩
        )
     )
   )

theorem path1_bad (ad : Option Addr) (c : Nat) (ps : List ByteArray) (w : World) (hl : ps.length ≤ 1000000) (hps : Strs w ad ps) (i : Int) (hbad : ¬ (okL ps ∧ 0 ≤ i ∧ i < ps.length)) :
  Calls Tryz.prog 69 #[.slice ad ps.length c, .int .i64 i] w fun e w' => e = .returned (.tuple #[.slice none 0 0, .int .i64 1]) ∧ Ch [] w w' := by
 refine calls_of (n := 46) (E := [(0, .slice ad ps.length c), (1, .int .i64 i)]) (W := Hp w [] []) Tryz.func69 rfl rfl (Nat.le_of_ble_eq_true rfl) rfl (Hp.nil _ _) ?_; refine jsr ?_; (iterate 2 refine jz ?_); refine jnt ?_; refine jsr ?_; refine jz ?_
 refine jl_call (ι := Option Nat × Nat × Nat) (v := fun q => .slice (q.1.map fun b => ⟨b, 0, none⟩) q.2.1 q.2.2) (W' := fun q w' => (q.1 = none → ¬ okL ps) ∧ (q.1 ≠ none → okL ps) ∧ Hp w [] [] w') rfl (by decide) rfl (goes_func rfl) (fun w1 hw1 => by
  by_cases hok : okL ps
  ·exact (rows_ok _ _ _ w1 (by omega) (hps.keep hw1) hok).mono fun e w' ⟨p, he, hch, _⟩ => ⟨(some p.1, tallL ps + 1, p.2), he, fun h => (by cases h), fun _ => hok, hw1.pure hch⟩
  ·exact (rows_bad _ _ _ w1 (by omega) (hps.keep hw1) hok).mono fun e w' ⟨he, hch⟩ => ⟨(none, 0, 0), he, fun _ => hok, fun h => absurd rfl h, hw1.pure hch⟩) (fun q => ?_)
 refine jl_and (fun hq1 => ?_); refine jl_and (fun hq2 => ?_)
 obtain ⟨q1, q2, q3⟩ := q
 simp only at hq1 hq2
 refine jz ?_; refine jnt ?_; refine jc_seq ?_; refine jsr ?_; refine jz ?_; refine jy (y_eql_snil rfl rfl) ?_; refine jl_bool (fun h13 => ?_) (fun h13 => ?_)
 ·skip
  refine jz ?_; (iterate 2 refine jsk ?_); refine jy (y_pick_true rfl rfl) ?_; refine jz ?_; (iterate 4 refine jsk ?_); refine jy (y_pick_true rfl rfl) ?_; refine jnt ?_; refine jc_true rfl ?_; refine jsr ?_; (iterate 2 refine jz ?_); refine jnt ?_; refine jc_ret ?_; refine jq_then_ret ?_; refine jq_ret2 rfl rfl rfl ?_; exact fun _ hw => ⟨rfl, hw.ch⟩
 ·skip
  (iterate 2 refine jz ?_); refine jy (y_lss rfl rfl) ?_; refine jl_prop (fun h16 => ?_) (fun h16 => ?_)
  ·first | (exfalso; omega) | (refine jy (y_pick_false rfl rfl) ?_; refine jz ?_; (iterate 4 refine jsk ?_); refine jy (y_pick_true rfl rfl) ?_; refine jnt ?_; refine jc_true rfl ?_; refine jsr ?_; (iterate 2 refine jz ?_); refine jnt ?_; refine jc_ret ?_; refine jq_then_ret ?_; refine jq_ret2 rfl rfl rfl ?_; exact fun _ hw => ⟨rfl, hw.ch⟩)
  ·first | (exfalso; omega) | (
    refine jy (y_pick_false rfl rfl) ?_; (iterate 3 refine jz ?_); refine jy (y_len_slice rfl) ?_; refine jy (y_geq rfl rfl) ?_; refine jl_prop (fun h22 => ?_) (fun h22 => ?_)
    ·first | (exfalso; omega) | (refine jy (y_pick_false rfl rfl) ?_; refine jnt ?_; refine jc_true rfl ?_; refine jsr ?_; (iterate 2 refine jz ?_); refine jnt ?_; refine jc_ret ?_; refine jq_then_ret ?_; refine jq_ret2 rfl rfl rfl ?_; exact fun _ hw => ⟨rfl, hw.ch⟩)
    ·exact absurd ⟨hq2 (fun e => by rw [e] at h13; cases h13), by omega, by omega⟩ hbad
    )

theorem path1_any (ad : Option Addr) (c : Nat) (ps : List ByteArray) (w : World) (hl : ps.length ≤ 1000000) (hps : Strs w ad ps) (i : Int) : Calls Tryz.prog 69 #[.slice ad ps.length c, .int .i64 i] w fun e w' => ∃ p : Option Addr × Nat, e = .returned (.tuple #[.slice p.1 (pathV ps i).length p.2, .int .i64 (pathE ps i)]) ∧ Fresh w w' (.row (p.1) ((pathV ps i).length) (p.2) 9 1 ((pathV ps i).map .string)) := by
  by_cases h : okL ps ∧ 0 ≤ i ∧ i < ps.length
  · obtain ⟨j, rfl⟩ : ∃ j : Nat, i = (j : Int) := ⟨i.toNat, by omega⟩
    exact path1_ok ad c ps w hl hps j h.1 (by omega)
  · refine (path1_bad ad c ps w hl hps i h).mono fun e w' hh => ?_
    rw [(path_bad h).1, (path_bad h).2]
    exact ⟨(none, 0), hh.1, (Hp.nilrow 9 1 (Hp.of_ch hh.2)).fresh⟩
theorem up1_ok (x : ByteArray) (i : Nat) (ad : Option Addr) (c : Nat) (ps : List ByteArray) (w : World) (hl : ps.length ≤ 1000000) (hps : Strs w ad ps) (hok : upOk x (i : Nat) ps) :
  Calls Tryz.prog 104 #[.string x, .int .i64 (i : Nat), .slice ad ps.length c] w fun e w' => e = .returned (.tuple #[.string (upS x (i : Nat) ps), .int .i64 (upE x (i : Nat) ps)]) ∧ Ch [] w w' := by
 obtain ⟨ho1, ho2, ho3, ho4, ho5⟩ := hok
 have hp16 := pow_le16 ho2
 refine calls_of (n := 56) (E := [(0, .string x), (1, .int .i64 (i : Nat)), (2, .slice ad ps.length c)]) (W := Hp w [] []) Tryz.func104 rfl rfl (Nat.le_of_ble_eq_true rfl) rfl (Hp.nil _ _) ?_; refine jsr ?_; (iterate 2 refine jz ?_); refine jnt ?_; refine jc_seq ?_; refine jsr ?_; refine jz ?_; refine jpc (goes_func rfl) (fun w1 hw1 => odd_any _ w1) ?_; refine jl_as (u := .bool false) (congrArg Value.bool (oddB_no ho1)) ?_; (iterate 2 refine jz ?_); refine jy (y_len_slice rfl) ?_; refine jy (y_gtr rfl rfl) ?_; refine jl_prop (fun h16 => ?_) (fun h16 => ?_)
 ·first | (exfalso; omega) | (refine jy (y_pick_false rfl rfl) ?_; refine jz ?_; (iterate 2 refine jsk ?_); refine jy (y_pick_true rfl rfl) ?_; refine jz ?_; (iterate 2 refine jsk ?_); refine jy (y_pick_true rfl rfl) ?_; refine jz ?_; (iterate 5 refine jsk ?_); refine jy (y_pick_true rfl rfl) ?_; refine jnt ?_; refine jc_true rfl ?_; refine jsr ?_; (iterate 2 refine jz ?_); refine jnt ?_; refine jc_ret ?_; refine jq_then_ret ?_; refine jq_ret2 rfl rfl rfl ?_; exact fun _ hw => ⟨by rw [(up_ok ⟨ho1, ho2, ho3, ho4, ho5⟩).1, (up_ok ⟨ho1, ho2, ho3, ho4, ho5⟩).2, Int.toNat_natCast], hw.ch⟩)
 ·first | (exfalso; omega) | (
   refine jy (y_pick_false rfl rfl) ?_; (iterate 2 refine jz ?_); refine jpc (goes_func rfl) (fun w1 hw1 => hasOdd_any _ _ _ w1 (by omega) (hps.keep hw1)) ?_; refine jl_as (u := .bool false) (congrArg Value.bool (any_even ho3)) ?_; refine jy (y_pick_false rfl rfl) ?_; (iterate 2 refine jz ?_); refine jy (y_lss rfl rfl) ?_; refine jl_prop (fun h24 => ?_) (fun h24 => ?_)
   ·first | (exfalso; omega) | (refine jy (y_pick_false rfl rfl) ?_; refine jz ?_; (iterate 5 refine jsk ?_); refine jy (y_pick_true rfl rfl) ?_; refine jnt ?_; refine jc_true rfl ?_; refine jsr ?_; (iterate 2 refine jz ?_); refine jnt ?_; refine jc_ret ?_; refine jq_then_ret ?_; refine jq_ret2 rfl rfl rfl ?_; exact fun _ hw => ⟨by rw [(up_ok ⟨ho1, ho2, ho3, ho4, ho5⟩).1, (up_ok ⟨ho1, ho2, ho3, ho4, ho5⟩).2, Int.toNat_natCast], hw.ch⟩)
   ·first | (exfalso; omega) | (
     refine jy (y_pick_false rfl rfl) ?_; (iterate 3 refine jz ?_); refine jy (y_len_slice rfl) ?_; refine jy (y_shl_fits (p := 1) (q := ((ps.length : Nat) : Int)) rfl rfl (by omega) (by simp only [IntKind.bits]; omega) (by rw [pow_two]; simp only [fits]; omega)) ?_; refine jl_as (u := .int .i64 ((2 ^ ps.length : Nat) : Int)) (congrArg _ pow_two) ?_; refine jy (y_geq rfl rfl) ?_; refine jl_prop (fun h31 => ?_) (fun h31 => ?_)
     ·first | (exfalso; omega) | (refine jy (y_pick_false rfl rfl) ?_; refine jnt ?_; refine jc_true rfl ?_; refine jsr ?_; (iterate 2 refine jz ?_); refine jnt ?_; refine jc_ret ?_; refine jq_then_ret ?_; refine jq_ret2 rfl rfl rfl ?_; exact fun _ hw => ⟨by rw [(up_ok ⟨ho1, ho2, ho3, ho4, ho5⟩).1, (up_ok ⟨ho1, ho2, ho3, ho4, ho5⟩).2, Int.toNat_natCast], hw.ch⟩)
     ·first | (exfalso; omega) | (
       refine jy (y_pick_false rfl rfl) ?_; refine jnt ?_; refine jc_false rfl ?_; refine jc_skip ?_; refine jq_then ?_; refine jsr ?_; (iterate 2 refine jz ?_); refine jnt ?_; refine jc_seq ?_; refine jsr ?_; refine jz ?_; refine jy (y_len_slice rfl) ?_; refine jz ?_; refine jnt ?_; refine jc_block ?_; refine jc_loop (fun (k : Nat) => [(1, .int .i64 ((i / 2 ^ k : Nat) : Int)), (2, .slice ad ps.length c), (8, .string (upK x i ps k)), (34, .slice ad ps.length c), (35, .int .i64 ps.length), (36, .int .i64 (k : Nat))]) (fun (k : Nat) => fun w' => k ≤ ps.length ∧ Hp w [] [] w') (fun (k : Nat) => ps.length - k) 0 ?_ ?_ ?_
       ·exact ⟨lk_int rfl (by simp), rfl, rfl, rfl, rfl, rfl, trivial⟩
       ·exact fun _ h => ⟨by omega, h⟩
       ·intro k
        refine jc_and (fun hk => ?_); refine jsr ?_; refine jy (y_lss rfl rfl) ?_; refine jl_prop (fun h37 => ?_) (fun h37 => ?_)
        ·first | (exfalso; omega) | (
          obtain ⟨bb, oo, rfl, hc⟩ := hps (k) _ (at0_some (show k < (ps).length by omega))
          have hs0 := ho3 _ (at0_mem (show k < ps.length by omega))
          have hs1 := upK_size ho1 i ps k
          have hds := @div_small i k 16 (by omega)
          refine jnt ?_; refine jc_seq ?_; refine jc_true rfl ?_; refine jc_skip ?_; refine jq_then ?_; refine jc_seq ?_; refine jc_block ?_; refine jsr ?_; refine jy (y_indexAddr_slice (off := oo + k) rfl rfl (by omega) (by omega) (by omega)) ?_; refine jy (y_load_old rfl hc (by simp)) ?_; refine jz ?_; refine jnt ?_; refine jc_seq ?_; refine jsr ?_; refine jz ?_; refine jy (y_and rfl rfl) ?_; refine jl_as (u := .int .i64 ((i / 2 ^ k % 2 : Nat) : Int)) (congrArg _ (and_two hds)) ?_; refine jy (y_eql rfl rfl) ?_; refine jl_prop (fun h42 => ?_) (fun h42 => ?_)
          ·first | (exfalso; omega) | (
            refine jnt ?_; refine jc_true rfl ?_; refine jc_region ?_; (iterate 2 refine jz ?_); refine jpc (goes_func rfl) (fun w1 hw1 => node_any _ _ w1 (by omega) (by omega)) ?_; refine jl_as (u := .string (upK x i ps (k + 1))) (congrArg Value.string (by rw [upK, if_pos (by omega)])) ?_; refine jz ?_; refine jnt ?_; refine jc_region ?_; refine jz ?_; refine jy (y_shr_by (m := 2) rfl rfl (by decide) (by decide) (by decide)) ?_; refine jl_as (congrArg _ (half_step i k)) ?_; refine jz ?_; refine jl_nil ?_; refine jq_block ?_; refine jq_then ?_; refine jc_region ?_; refine jy (yaf rfl rfl) ?_; refine jz ?_; refine jl_nil ?_; refine jq_round (i := k) (k + 1) ?_ ?_ ?_
            ·omega
            ·exact ⟨rfl, rfl, rfl, rfl, rfl, lk_int rfl (by omega), trivial⟩
            ·exact fun _ h => ⟨by omega, h⟩
            )
          ·first | (exfalso; omega) | (
            refine jnt ?_; refine jc_false rfl ?_; refine jc_region ?_; (iterate 2 refine jz ?_); refine jpc (goes_func rfl) (fun w1 hw1 => node_any _ _ w1 (by omega) (by omega)) ?_; refine jl_as (u := .string (upK x i ps (k + 1))) (congrArg Value.string (by rw [upK, if_neg (by omega)])) ?_; refine jz ?_; refine jnt ?_; refine jc_region ?_; refine jz ?_; refine jy (y_shr_by (m := 2) rfl rfl (by decide) (by decide) (by decide)) ?_; refine jl_as (congrArg _ (half_step i k)) ?_; refine jz ?_; refine jl_nil ?_; refine jq_block ?_; refine jq_then ?_; refine jc_region ?_; refine jy (yaf rfl rfl) ?_; refine jz ?_; refine jl_nil ?_; refine jq_round (i := k) (k + 1) ?_ ?_ ?_
            ·omega
            ·exact ⟨rfl, rfl, rfl, rfl, rfl, lk_int rfl (by omega), trivial⟩
            ·exact fun _ h => ⟨by omega, h⟩
            )
          )
        ·first | (exfalso; omega) | (
          refine jnt ?_; refine jc_seq ?_; refine jc_false rfl ?_; refine jc_exit ?_; (iterate 2 refine jq_then_exit ?_); refine jq_hit ?_; refine jq_then ?_; refine jc_seq ?_
          have hs1 := upK_size ho1 i ps k
          have hk2 : k = ps.length := by omega
          subst hk2
          refine jc_region ?_; refine jz ?_; refine jy (y_len_slice rfl) ?_; refine jz ?_; refine jpc (goes_func rfl) (fun w1 hw1 => topped_any _ _ w1 (by omega)) ?_; (iterate 2 refine jz ?_); refine jnt ?_; refine jc_ret ?_; refine jq_ret2 rfl rfl rfl ?_; exact fun _ hw => ⟨by rw [(up_ok ⟨ho1, ho2, ho3, ho4, ho5⟩).1, (up_ok ⟨ho1, ho2, ho3, ho4, ho5⟩).2, Int.toNat_natCast], hw.ch⟩
          )
       )
     )
   )

theorem up1_bad (x : ByteArray) (i : Int) (ad : Option Addr) (c : Nat) (ps : List ByteArray) (w : World) (hl : ps.length ≤ 1000000) (hps : Strs w ad ps) (hok : ¬ upOk x i ps) :
  Calls Tryz.prog 104 #[.string x, .int .i64 i, .slice ad ps.length c] w fun e w' => e = .returned (.tuple #[.string ⟨#[]⟩, .int .i64 1]) ∧ Ch [] w w' := by
 refine calls_of (n := 56) (E := [(0, .string x), (1, .int .i64 i), (2, .slice ad ps.length c)]) (W := Hp w [] []) Tryz.func104 rfl rfl (Nat.le_of_ble_eq_true rfl) rfl (Hp.nil _ _) ?_; refine jsr ?_; (iterate 2 refine jz ?_); refine jnt ?_; refine jc_seq ?_; refine jsr ?_; refine jz ?_; refine jpc (goes_func rfl) (fun w1 hw1 => odd_any _ w1) ?_; refine jl_bool (fun h12 => ?_) (fun h12 => ?_)
 ·skip
  refine jz ?_; (iterate 3 refine jsk ?_); refine jy (y_pick_true rfl rfl) ?_; refine jz ?_; (iterate 2 refine jsk ?_); refine jy (y_pick_true rfl rfl) ?_; refine jz ?_; (iterate 2 refine jsk ?_); refine jy (y_pick_true rfl rfl) ?_; refine jz ?_; (iterate 5 refine jsk ?_); refine jy (y_pick_true rfl rfl) ?_; refine jnt ?_; refine jc_true rfl ?_; refine jsr ?_; (iterate 2 refine jz ?_); refine jnt ?_; refine jc_ret ?_; refine jq_then_ret ?_; refine jq_ret2 rfl rfl rfl ?_; exact fun _ hw => ⟨rfl, hw.ch⟩
 ·skip
  (iterate 2 refine jz ?_); refine jy (y_len_slice rfl) ?_; refine jy (y_gtr rfl rfl) ?_; refine jl_prop (fun h16 => ?_) (fun h16 => ?_)
  ·first | (exfalso; omega) | (refine jy (y_pick_false rfl rfl) ?_; refine jz ?_; (iterate 2 refine jsk ?_); refine jy (y_pick_true rfl rfl) ?_; refine jz ?_; (iterate 2 refine jsk ?_); refine jy (y_pick_true rfl rfl) ?_; refine jz ?_; (iterate 5 refine jsk ?_); refine jy (y_pick_true rfl rfl) ?_; refine jnt ?_; refine jc_true rfl ?_; refine jsr ?_; (iterate 2 refine jz ?_); refine jnt ?_; refine jc_ret ?_; refine jq_then_ret ?_; refine jq_ret2 rfl rfl rfl ?_; exact fun _ hw => ⟨rfl, hw.ch⟩)
  ·first | (exfalso; omega) | (
    refine jy (y_pick_false rfl rfl) ?_; (iterate 2 refine jz ?_); refine jpc (goes_func rfl) (fun w1 hw1 => hasOdd_any _ _ _ w1 (by omega) (hps.keep hw1)) ?_; refine jl_bool (fun h20 => ?_) (fun h20 => ?_)
    ·skip
     refine jy (y_pick_false rfl rfl) ?_; refine jz ?_; (iterate 2 refine jsk ?_); refine jy (y_pick_true rfl rfl) ?_; refine jz ?_; (iterate 5 refine jsk ?_); refine jy (y_pick_true rfl rfl) ?_; refine jnt ?_; refine jc_true rfl ?_; refine jsr ?_; (iterate 2 refine jz ?_); refine jnt ?_; refine jc_ret ?_; refine jq_then_ret ?_; refine jq_ret2 rfl rfl rfl ?_; exact fun _ hw => ⟨rfl, hw.ch⟩
    ·skip
     refine jy (y_pick_false rfl rfl) ?_; (iterate 2 refine jz ?_); refine jy (y_lss rfl rfl) ?_; refine jl_prop (fun h24 => ?_) (fun h24 => ?_)
     ·first | (exfalso; omega) | (refine jy (y_pick_false rfl rfl) ?_; refine jz ?_; (iterate 5 refine jsk ?_); refine jy (y_pick_true rfl rfl) ?_; refine jnt ?_; refine jc_true rfl ?_; refine jsr ?_; (iterate 2 refine jz ?_); refine jnt ?_; refine jc_ret ?_; refine jq_then_ret ?_; refine jq_ret2 rfl rfl rfl ?_; exact fun _ hw => ⟨rfl, hw.ch⟩)
     ·first | (exfalso; omega) | (
       have hp16 := @pow_le16 ps.length (by omega)
       refine jy (y_pick_false rfl rfl) ?_; (iterate 3 refine jz ?_); refine jy (y_len_slice rfl) ?_; refine jy (y_shl_fits (p := 1) (q := ((ps.length : Nat) : Int)) rfl rfl (by omega) (by simp only [IntKind.bits]; omega) (by rw [pow_two]; simp only [fits]; omega)) ?_; refine jl_as (u := .int .i64 ((2 ^ ps.length : Nat) : Int)) (congrArg _ pow_two) ?_; refine jy (y_geq rfl rfl) ?_; refine jl_prop (fun h31 => ?_) (fun h31 => ?_)
       ·first | (exfalso; omega) | (refine jy (y_pick_false rfl rfl) ?_; refine jnt ?_; refine jc_true rfl ?_; refine jsr ?_; (iterate 2 refine jz ?_); refine jnt ?_; refine jc_ret ?_; refine jq_then_ret ?_; refine jq_ret2 rfl rfl rfl ?_; exact fun _ hw => ⟨rfl, hw.ch⟩)
       ·exact absurd ⟨oddB_size h12, by omega, any_size h20, by omega, by omega⟩ hok
       )
    )

theorem up1_any (x : ByteArray) (i : Int) (ad : Option Addr) (c : Nat) (ps : List ByteArray) (w : World) (hl : ps.length ≤ 1000000) (hps : Strs w ad ps) : Calls Tryz.prog 104 #[.string x, .int .i64 i, .slice ad ps.length c] w fun e w' => e = .returned (.tuple #[.string (upS x i ps), .int .i64 (upE x i ps)]) ∧ Ch [] w w' := by
  by_cases h : upOk x i ps
  · obtain ⟨j, rfl⟩ : ∃ j : Nat, i = (j : Int) := ⟨i.toNat, by have := h.2.2.2.1; omega⟩
    exact up1_ok x j ad c ps w hl hps h
  · refine (up1_bad x i ad c ps w hl hps h).mono fun e w' hh => ?_
    rw [(up_bad h).1, (up_bad h).2]
    exact hh
end Go.Proofs.YtghomncegjamfaaGreat