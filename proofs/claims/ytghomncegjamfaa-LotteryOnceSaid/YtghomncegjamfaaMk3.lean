/- A new key, all of whose blocks are own. Written by program (walk.py) out of a table of contracts and invariants. -/
import Derived.Test.YtghomncegjamfaaMk2
namespace Go.Proofs.Ytghomncegjamfaa
open Go.RowKit
set_option maxRecDepth 100000
set_option linter.unusedVariables false
set_option linter.unusedSimpArgs false
attribute [local irreducible] Yields Makes Writes
/-- A key's blocks: its leaves, itself, its counter. -/
abbrev kyL (p : Option Addr × Nat) (seed : ByteArray) (h : Nat) : HA := .row p.1 (2 ^ h) p.2 9 1 ((leavesS seed h).map .string)
abbrev kyK (bk bc : Nat) (p : Option Addr × Nat) (seed : ByteArray) (h : Nat) : HA := .cells bk [.pointer (some ⟨bc, 0, none⟩), .string seed, .slice p.1 (2 ^ h) p.2, .string (rootK seed h)]
abbrev kyC (bc : Nat) (h : Nat) (n : Int) : HA := .cells bc [.int .i64 n, .int .i64 ((2 ^ h : Nat) : Int)]
theorem KeyAt.of_own {w0 w : World} {S : List Nat} {H : List HA} {bk bc h : Nat} {p : Option Addr × Nat} {seed : ByteArray} {n : Int} (hw : Hp w0 S H w) (h1 : kyL p seed h ∈ H) (h2 : kyK bk bc p seed h ∈ H) (h3 : kyC bc h n ∈ H) : KeyAt w [bc] bk bc seed h := by
  have hkey : Cells w bk _ := hw.get h2
  have hne : ∀ A ∈ H, ∀ B ∈ H, A ≠ B → ∀ k, A.foot = some k → B.foot = some k → False := fun A hA B hB hAB k ha hb => by
    obtain ⟨x, hx, ex⟩ := List.mem_iff_getElem.1 hA
    obtain ⟨y, hy, ey⟩ := List.mem_iff_getElem.1 hB
    have h4 := List.pairwise_iff_getElem.1 hw.apart
    rcases Nat.lt_trichotomy x y with q | q | q
    · exact h4 x y hx hy q k (by rw [ex]; exact ha) (by rw [ey]; exact hb)
    · subst q; exact hAB (ex.symm.trans ey)
    · exact h4 y x hy hx q k (by rw [ey]; exact hb) (by rw [ex]; exact ha)
  refine ⟨fun hm => ?_, hkey.cell 0, hkey.cell 1, hkey.cell 3, p.1, p.2, by rw [leavesS_length]; exact hkey.cell 2, Strs.of_own (hw.get h1), fun b o e hm => ?_⟩
  · have e := List.mem_singleton.1 hm
    exact hne _ h2 _ h3 (by simp) bk rfl (by rw [e]; rfl)
  · have e2 := List.mem_singleton.1 hm
    exact hne _ h1 _ h3 (by simp) b (by show HA.foot _ = _; simp [HA.foot, e]) (by rw [e2]; rfl)

theorem mnew_own (seed : ByteArray) (h : Nat) (w : World) (hs : seed.size ≤ 1000000) (hh : h ≤ 4) :
  Calls Try.prog 7 #[.string seed, .int .i64 (h : Nat)] w fun e w' => ∃ b : (Nat × Nat) × (Option Addr × Nat), e = .returned (.tuple #[.pointer (some ⟨b.1.1, 0, none⟩), .int .i64 0]) ∧ Hp w [] [kyL b.2 seed h, kyK b.1.1 b.1.2 b.2 seed h, kyC b.1.2 h 0] w' := by
 have hp16 := pow_le16 hh
 refine calls_of (n := 57) (E := [(0, .string seed), (1, .int .i64 (h : Nat))]) (W := Hp w [] []) Try.func7 rfl rfl (Nat.le_of_ble_eq_true rfl) rfl (Hp.nil _ _) ?_
 refine jsr ?_
 refine jz ?_
 refine jz ?_
 refine jnt ?_
 refine jc_seq ?_
 refine jsr ?_
 refine jz ?_
 refine jy (y_lss rfl rfl) ?_
 refine jl_prop (fun h9 => ?_) (fun h9 => ?_)
 ·first
  | (exfalso; omega)
  | (
   refine jz ?_
   refine jsk ?_
   refine jsk ?_
   refine jy (y_pick_true rfl rfl) ?_
   refine jnt ?_
   refine jc_true rfl ?_
   refine jsr ?_
   refine jz ?_
   refine jz ?_
   refine jnt ?_
   refine jc_ret ?_
   refine jq_then_ret ?_
   refine jq_ret2 rfl rfl rfl ?_
   exact fun w' hw => ⟨((b20, b17), (adl, cl)), rfl, hw⟩
   )
 ·first
  | (exfalso; omega)
  | (
   refine jz ?_
   refine jz ?_
   refine jy (y_gtr rfl rfl) ?_
   refine jl_prop (fun h12 => ?_) (fun h12 => ?_)
   ·first
    | (exfalso; omega)
    | (
     refine jy (y_pick_false rfl rfl) ?_
     refine jnt ?_
     refine jc_true rfl ?_
     refine jsr ?_
     refine jz ?_
     refine jz ?_
     refine jnt ?_
     refine jc_ret ?_
     refine jq_then_ret ?_
     refine jq_ret2 rfl rfl rfl ?_
     exact fun w' hw => ⟨((b20, b17), (adl, cl)), rfl, hw⟩
     )
   ·first
    | (exfalso; omega)
    | (
     refine jy (y_pick_false rfl rfl) ?_
     refine jnt ?_
     refine jc_false rfl ?_
     refine jc_skip ?_
     refine jq_then ?_
     refine jsr ?_
     refine jz ?_
     refine jy (y_shl_fits (p := 1) (q := ((h : Nat) : Int)) rfl rfl (by omega) (by simp only [IntKind.bits]; omega) (by rw [pow_two]; simp only [fits]; omega)) ?_
     refine jl_as (u := .int .i64 ((2 ^ h : Nat) : Int)) (congrArg _ pow_two) ?_
     refine jy (y_build (Built.cell rfl rfl rfl (by repeat constructor) Built.nil)) ?_
     refine jl_m rfl (by decide) rfl (m_box rfl rfl) (fun b17 => ?_)
     refine jz ?_
     refine jy (y_build (Built.cell rfl rfl rfl (by repeat constructor) (Built.cell rfl rfl rfl (by repeat constructor) Built.nil))) ?_
     refine jl_m rfl (by decide) rfl (m_box rfl rfl) (fun b20 => ?_)
     refine jz ?_
     refine jnt ?_
     refine jc_seq ?_
     refine jc_seq ?_
     refine jc_world (fun _ h => h.nilrow 9 1) ?_
     refine jc_region ?_
     refine jz ?_
     refine jz ?_
     refine jz ?_
     refine jz ?_
     refine jz ?_
     refine jz ?_
     refine jz ?_
     refine jz ?_
     refine jnt ?_
     refine jc_block ?_
     refine jc_loop3 (fun (i : Nat) (adl : Option Addr) (cl : Nat) => [(0, .string seed), (6, .pointer (some ⟨b20, 0, none⟩)), (27, .int .i64 ((2 ^ h : Nat) : Int)), (28, .int .i64 (i : Nat))]) (fun (i : Nat) (adl : Option Addr) (cl : Nat) => fun w' => i ≤ 2 ^ h ∧ Hp w [] [.row (adl) (i) (cl) 9 1 ((leavesN seed (i)).map .string), .cells b20 [.pointer (some ⟨b17, 0, none⟩), .string seed, .slice adl (i) cl, .string ⟨#[]⟩], .cells b17 [.int .i64 0, .int .i64 ((2 ^ h : Nat) : Int)]] w') (fun (i : Nat) (adl : Option Addr) (cl : Nat) => 2 ^ h - i) 0 none 0 ?_ ?_ ?_
     ·exact ⟨rfl, rfl, rfl, rfl, trivial⟩
     ·exact fun _ h => ⟨by omega, h⟩
     ·intro i adl cl
      refine jc_and (fun hi => ?_)
      refine jsr ?_
      refine jy (y_lss rfl rfl) ?_
      refine jl_prop (fun h29 => ?_) (fun h29 => ?_)
      ·first
       | (exfalso; omega)
       | (
        refine jnt ?_
        refine jc_seq ?_
        refine jc_true rfl ?_
        refine jc_skip ?_
        refine jq_then ?_
        refine jc_seq ?_
        refine jc_block ?_
        refine jsr ?_
        refine jz ?_
        refine jz ?_
        refine jnt ?_
        refine jc_schedC (Hp w [] [.cells b20 [.pointer (some ⟨b17, 0, none⟩), .string seed, .slice adl i cl, .string ⟨#[]⟩], .cells b17 [.int .i64 0, .int .i64 ((2 ^ h : Nat) : Int)]]) 13 [(0, true), (1, true), (2, true), (3, true), (4, true), (5, true), (6, true), (7, false), (8, false), (9, false), (10, false), (11, true), (12, true)] rfl (by kernel_rfl) (fun _ _ _ _ h => h) (fun _ h => (h.pop).drew) (fun _ h => h.drew) ?_
        simp only [pickO, nthO, List.drop_succ_cons, List.drop_zero]
        refine jkz ?_
        refine jkz ?_
        refine jkz ?_
        refine jkz ?_
        refine jkz ?_
        refine jkz ?_
        refine jkz ?_
        refine js_pcall (by intro _ h; first | exact h | exact h.pop | exact h.pop.pop | exact h.pop.pop.pop | exact h.pop.pop.pop.pop | exact h.pop.pop.pop.pop.pop | exact h.pop.pop.pop.pop.pop.pop | exact h.part .nil) rfl (by decide) rfl (goes_func rfl) (fun w1 hw1 => pcall hw1 (seeded_any _ _ w1 (by omega))) ?_
        refine js_pcall (by intro _ h; first | exact h | exact h.pop | exact h.pop.pop | exact h.pop.pop.pop | exact h.pop.pop.pop.pop | exact h.pop.pop.pop.pop.pop | exact h.pop.pop.pop.pop.pop.pop | exact h.part .nil) rfl (by decide) rfl (goes_func rfl) (fun w1 hw1 => pcall hw1 (public_any _ w1 (by rw [seededS_size]; decide))) ?_
        refine js_m (by intros; rename_i h; first | exact h | exact h.pop | exact h.pop.pop | exact h.pop.pop.pop | exact h.pop.pop.pop.pop | exact h.pop.pop.pop.pop.pop | exact h.pop.pop.pop.pop.pop.pop | exact h.part .nil) rfl (by decide) rfl (m_buildSlice (by decide) (Built.cell rfl rfl rfl (by repeat constructor) Built.nil)) (fun b40 => ?_)
        refine js_m2z rfl (by decide) rfl (m_append rfl rfl (by first | exact del0 | exact del1 | exact del2 | exact del3 | exact del4) (by first | exact del0 | exact del1 | exact del2 | exact del3 | exact del4) rfl (by omega) (by omega)) (by intros; rename_i h; first | exact h | exact h.pop | exact h.pop.pop | exact h.pop.pop.pop | exact h.pop.pop.pop.pop | exact h.pop.pop.pop.pop.pop | exact h.pop.pop.pop.pop.pop.pop | exact h.part .nil) (fun a41 c41 => ?_)
        refine jkz ?_
        refine jkz ?_
        refine js_nil ?_
        refine jst ?_
        refine jl_nil ?_
        refine jq_block ?_
        refine jq_then ?_
        refine jc_region ?_
        refine jy (y_add_fits rfl rfl (by simp only [fits]; omega)) ?_
        refine jz ?_
        refine jl_nil ?_
        refine jq_round3 (i := i) (j := adl) (l := cl) (i + 1) a41 c41 ?_ ?_ ?_
        ·omega
        ·exact ⟨rfl, rfl, rfl, lk_int rfl (by omega), trivial⟩
        ·exact fun _ h => ⟨by omega, h.cast (by rw [leavesN_succ, List.map_append]; rfl)⟩
        )
      ·first
       | (exfalso; omega)
       | (
        refine jnt ?_
        refine jc_seq ?_
        refine jc_false rfl ?_
        refine jc_exit ?_
        refine jq_then_exit ?_
        refine jq_then_exit ?_
        refine jq_hit ?_
        refine jq_then ?_
        refine jc_seq ?_
        have hi2 : i = 2 ^ h := by omega
        subst hi2
        refine jc_region ?_
        refine jz ?_
        refine jz ?_
        refine jz ?_
        refine jz ?_
        refine jz ?_
        refine jl_as (u := .slice adl (leavesS seed h).length cl) (by rw [leavesS_length]) ?_
        refine jpc (goes_func rfl) (fun w1 hw1 => root1_any _ _ (leavesS seed h) w1 (by rw [leavesS_length]; omega) (Strs.of_own (hw1.get mem0))) ?_
        refine jz ?_
        refine jz ?_
        refine jz ?_
        refine jz ?_
        refine jz ?_
        refine jst ?_
        refine jnt ?_
        refine jsr ?_
        refine jz ?_
        refine jz ?_
        refine jz ?_
        refine jnt ?_
        refine jc_ret ?_
        refine jq_ret2 rfl rfl rfl ?_
        exact fun w' hw => ⟨((b20, b17), (adl, cl)), rfl, hw⟩
        )
     )
   )

theorem ksign_own {w0 w : World} {S : List Nat} {H : List HA} {bk bc h : Nat} {p : Option Addr × Nat} {seed : ByteArray} {i : Nat} (hw : Hp w0 S H w) (h1 : kyL p seed h ∈ H) (h2 : kyK bk bc p seed h ∈ H) (h3 : kyC bc h (i : Nat) ∈ H) (hh : h ≤ 4) (hsd : seed.size ≤ 1000000) (msg : ByteArray) (hm : msg.size ≤ 900000) (hi : i < 2 ^ h) :
    Calls Try.prog 13 #[.pointer (some ⟨bk, 0, none⟩), .string msg] w fun e w' => e = .returned (.tuple #[.string (signK seed h i msg), .int .i64 0]) ∧ Upd w w' (kyC bc h (i : Nat)) (kyC bc h ((i + 1 : Nat) : Int)) :=
  ksign_ok [bc] bk bc seed h w (KeyAt.of_own hw h1 h2 h3) (by simp) hh hsd msg hm i hi (hw.get h3)
theorem ksign_over {w0 w : World} {S : List Nat} {H : List HA} {bk bc h : Nat} {p : Option Addr × Nat} {seed : ByteArray} {n : Int} (hw : Hp w0 S H w) (h1 : kyL p seed h ∈ H) (h2 : kyK bk bc p seed h ∈ H) (h3 : kyC bc h n ∈ H) (msg : ByteArray) (hn : ((2 ^ h : Nat) : Int) ≤ n) :
    Calls Try.prog 13 #[.pointer (some ⟨bk, 0, none⟩), .string msg] w fun e w' => e = .returned (.tuple #[.string ⟨#[]⟩, .int .i64 14]) ∧ Ch [] w w' :=
  ksign_bad [bc] bk bc seed h w (KeyAt.of_own hw h1 h2 h3) msg n _ hn (CellAt.of_cells (hw.get h3) rfl) (CellAt.of_cells (hw.get h3) rfl)
theorem kroot_own {w0 w : World} {S : List Nat} {H : List HA} {bk bc h : Nat} {p : Option Addr × Nat} {seed : ByteArray} {n : Int} (hw : Hp w0 S H w) (h1 : kyL p seed h ∈ H) (h2 : kyK bk bc p seed h ∈ H) (h3 : kyC bc h n ∈ H) :
    Calls Try.prog 10 #[.pointer (some ⟨bk, 0, none⟩)] w fun e w' => e = .returned (.string (rootK seed h)) ∧ Ch [] w w' :=
  kroot_any [bc] bk bc seed h w (KeyAt.of_own hw h1 h2 h3)
end Go.Proofs.Ytghomncegjamfaa