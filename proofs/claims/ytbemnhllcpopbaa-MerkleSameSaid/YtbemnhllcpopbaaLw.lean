/- The walks of the laws of layer 7: what they share. Written by program (walk.py) out of a table of contracts and invariants. -/
import Derived.Test.YtbemnhllcpopbaaRm
import Derived.Test.YtbemnhllcpopbaaLb
import Derived.Test.YtbemnhllcpopbaaJp
namespace Go.Proofs.Ytbemnhllcpopbaa
open Go.RowKit
set_option maxRecDepth 100000
set_option linter.unusedVariables false
set_option linter.unusedSimpArgs false
def sS : ByteArray := ⟨#[115]⟩
def sM : ByteArray := ⟨#[109]⟩
def sN : ByteArray := ⟨#[110]⟩
def sO : ByteArray := ⟨#[111]⟩
def sHex16 : ByteArray := ⟨#[48, 49, 50, 51, 52, 53, 54, 55, 56, 57, 97, 98, 99, 100, 101, 102]⟩
/-- A key signs, or does not: all at once. -/
def sgV (seed : ByteArray) (h n : Nat) (msg : ByteArray) : ByteArray := if n < 2 ^ h then signK seed h n msg else ⟨#[]⟩
def sgE (h n : Nat) : Int := if n < 2 ^ h then 0 else 14
def sgN (h n : Nat) : Nat := if n < 2 ^ h then n + 1 else n
theorem sg_ok {seed : ByteArray} {h n : Nat} {msg : ByteArray} (hn : n < 2 ^ h) : sgV seed h n msg = signK seed h n msg ∧ sgE h n = 0 ∧ sgN h n = n + 1 := by unfold sgV sgE sgN; rw [if_pos hn, if_pos hn, if_pos hn]; exact ⟨rfl, rfl, rfl⟩
theorem sg_bad {seed : ByteArray} {h n : Nat} {msg : ByteArray} (hn : ¬ n < 2 ^ h) : sgV seed h n msg = ⟨#[]⟩ ∧ sgE h n = 14 ∧ sgN h n = n := by unfold sgV sgE sgN; rw [if_neg hn, if_neg hn, if_neg hn]; exact ⟨rfl, rfl, rfl⟩
def cntC (bc : Nat) (h : Nat) (n : Nat) : HA := .cells bc [.int .i64 ((n : Nat) : Int), .int .i64 ((2 ^ h : Nat) : Int)]
theorem ksign_all (S : List Nat) (bk bc : Nat) (seed : ByteArray) (h : Nat) (w : World) (hk : KeyAt w S bk bc seed h) (hbc : bc ∈ S) (hh : h ≤ 4) (hsd : seed.size ≤ 1000000) (msg : ByteArray) (hm : msg.size ≤ 900000) (n : Nat) (hA : HA.ok w (.cells bc [.int .i64 ((n : Nat) : Int), .int .i64 ((2 ^ h : Nat) : Int)])) :
    Calls Try.prog 22 #[.pointer (some ⟨bk, 0, none⟩), .string msg] w fun e w' => e = .returned (.tuple #[.string (sgV seed h n msg), .int .i64 (sgE h n)]) ∧ Upd w w' (.cells bc [.int .i64 ((n : Nat) : Int), .int .i64 ((2 ^ h : Nat) : Int)]) (.cells bc [.int .i64 ((sgN h n : Nat) : Int), .int .i64 ((2 ^ h : Nat) : Int)]) := by
  by_cases hn : n < 2 ^ h
  · obtain ⟨e1, e2, e3⟩ := @sg_ok seed h n msg hn
    rw [e1, e2, e3]
    exact ksign_ok S bk bc seed h w hk hbc hh hsd msg hm n hn hA
  · obtain ⟨e1, e2, e3⟩ := @sg_bad seed h n msg hn
    rw [e1, e2, e3]
    refine (ksign_bad S bk bc seed h w hk msg (n : Nat) ((2 ^ h : Nat) : Int) (by omega) (CellAt.of_cells hA rfl) (CellAt.of_cells hA rfl)).mono fun e w' hh => ⟨hh.1, hh.2.mono (by simp), ?_⟩
    exact HA.kept hA fun k hk => hh.2.block k (HA.lt hA hk) (by simp)
def brE (m b : Int) : Int := if 0 ≤ b ∧ b ≤ m then 0 else 1
def brN (n m b : Int) : Int := if 0 ≤ b ∧ b ≤ m then max n b else n
theorem br_ok {n m b : Int} (h : 0 ≤ b ∧ b ≤ m) : brE m b = 0 ∧ brN n m b = max n b := by unfold brE brN; rw [if_pos h, if_pos h]; exact ⟨rfl, rfl⟩
theorem br_bad {n m b : Int} (h : ¬ (0 ≤ b ∧ b ≤ m)) : brE m b = 1 ∧ brN n m b = n := by unfold brE brN; rw [if_neg h, if_neg h]; exact ⟨rfl, rfl⟩
theorem burn_all (bc : Nat) (n m b : Int) (w : World) (hA : HA.ok w (.cells bc [.int .i64 n, .int .i64 m])) :
    Calls Try.prog 29 #[.pointer (some ⟨bc, 0, none⟩), .int .i64 b] w fun e w' => e = .returned (.int .i64 (brE m b)) ∧ Upd w w' (.cells bc [.int .i64 n, .int .i64 m]) (.cells bc [.int .i64 (brN n m b), .int .i64 m]) := by
  by_cases h : 0 ≤ b ∧ b ≤ m
  · rw [(br_ok (n := n) h).1, (br_ok (n := n) h).2]
    exact burn_ok bc n m b w hA h.1 h.2
  · rw [(br_bad (n := n) h).1, (br_bad (n := n) h).2]
    refine (burn_bad bc m b w (CellAt.of_cells hA rfl) h).mono fun e w' hh => ⟨hh.1, hh.2.mono (by simp), ?_⟩
    exact HA.kept hA fun k hk => hh.2.block k (HA.lt hA hk) (by simp)
def cutL (ps : List ByteArray) : List ByteArray := (ps.take 20).map fun p => cutS p 20
theorem cutL_take {ps : List ByteArray} {i : Nat} (h : i < ps.length) : (ps.take (i + 1)).map (fun p => cutS p 20) = (ps.take i).map (fun p => cutS p 20) ++ [cutS (at0 ps i) 20] := by
  rw [List.take_add_one, at0_some h, List.map_append]; rfl
theorem cutL_small (ps : List ByteArray) : (cutL ps).length ≤ 20 := by unfold cutL; rw [List.length_map, List.length_take]; omega
theorem cutL_end {ps : List ByteArray} {i : Nat} (h : i = ps.length ∨ i = 20) (h2 : i ≤ ps.length ∧ i ≤ 20) : (ps.take i).map (fun p => cutS p 20) = cutL ps ∧ i = (cutL ps).length := by
  unfold cutL
  have e : ps.take i = ps.take 20 := by
    rcases h with h | h
    · subst h; rw [List.take_of_length_le (Nat.le_refl _), List.take_of_length_le (by omega)]
    · rw [h]
  refine ⟨by rw [e], ?_⟩
  rw [← e, List.length_map, List.length_take]; omega

theorem cut7_any (ad : Option Addr) (c : Nat) (ps : List ByteArray) (w : World) (hps : Strs w ad ps) :
    Calls Try.prog 9 #[.slice ad ps.length c] w fun e w' => ∃ p : Option Addr × Nat, e = .returned (.slice p.1 (cutL ps).length p.2) ∧ Fresh w w' (.row (p.1) ((cutL ps).length) (p.2) 9 1 ((cutL ps).map .string)) := by
  refine calls_of (n := 31) (E := [(0, .slice ad ps.length c)]) (W := Hp w [] []) Try.func9 rfl rfl (Nat.le_of_ble_eq_true rfl) rfl (Hp.nil _ _) ?_
  refine jc_seq ?_
  -- region 0
  refine jc_region ?_
  refine jl_y rfl (by decide) rfl (y_assign rfl) ?_
  refine jl_nil ?_
  refine jq_then ?_
  refine jc_seq ?_
  -- region 1
  refine jc_region ?_
  refine jl_m rfl (by decide) rfl (m_buildSlice (by decide) Built.nil) (fun b5 => ?_)
  refine jl_y rfl (by decide) rfl (y_assign rfl) ?_
  refine jl_nil ?_
  refine jq_then ?_
  refine jc_seq ?_
  refine jc_seq ?_
  -- region 2
  refine jc_region ?_
  refine jl_y rfl (by decide) rfl (y_assign rfl) ?_
  refine jl_nil ?_
  refine jq_then ?_
  refine jc_block ?_
  -- a loop
  refine jc_loop3 (fun (i : Nat) (adn : Option Addr) (cn : Nat) => [(0, .slice ad ps.length c), (3, .slice adn i cn), (4, .int .i64 (i : Nat))]) (fun (i : Nat) (adn : Option Addr) (cn : Nat) => fun w' => (i ≤ ps.length ∧ i ≤ 20) ∧ Hp w [] [.row (adn) (i) (cn) 9 1 (((ps.take i).map (fun p => cutS p 20)).map .string)] w') (fun (i : Nat) (adn : Option Addr) (cn : Nat) => 20 - i) 0 (some ⟨b5, 0, none⟩) 0 ?_ ?_ ?_
  · exact ⟨rfl, rfl, rfl, trivial⟩
  · exact fun _ h => ⟨by omega, h⟩
  · intro i adn cn
    refine jc_and (fun hi => ?_)
    refine jc_seq ?_
    refine jc_seq ?_
    -- region 3
    refine jc_region ?_
    refine jl_y rfl (by decide) rfl (y_move rfl) ?_
    refine jl_y rfl (by decide) rfl (y_move rfl) ?_
    refine jl_y rfl (by decide) rfl (y_len_slice rfl) ?_
    refine jl_y rfl (by decide) rfl (y_lss rfl rfl) ?_
    refine jl_prop (fun h9 => ?_) (fun h9 => ?_)
    · first
      | (exfalso; omega)
      | (
        refine jl_y rfl (by decide) rfl (y_move rfl) ?_
        refine jl_y rfl (by decide) rfl (y_move rfl) ?_
        refine jl_y rfl (by decide) rfl (y_lss rfl rfl) ?_
        refine jl_prop (fun h12 => ?_) (fun h12 => ?_)
        · first
          | (exfalso; omega)
          | (
            obtain ⟨bb, oo, rfl, hc⟩ := hps (i) _ (at0_some (show i < (ps).length by omega))
            refine jl_y rfl (by decide) rfl (y_pick_true rfl rfl) ?_
            refine jl_nil ?_
            refine jq_then ?_
            refine jc_true rfl ?_
            refine jc_skip ?_
            refine jq_then ?_
            refine jc_seq ?_
            refine jc_block ?_
            -- region 5
            refine jc_sched 13 [(0, true), (1, true), (2, true), (3, true), (4, true), (5, true), (6, true), (7, true), (8, true), (9, true), (10, true), (11, true), (12, false)] rfl (by kernel_rfl) (fun _ _ _ _ h => h) (fun _ h => h.drew) ?_
            simp only [pickO, nthO, List.drop_succ_cons, List.drop_zero]
            refine js_take rfl (by decide) rfl (y_move rfl) ?_
            refine js_take rfl (by decide) rfl (y_move rfl) ?_
            refine js_take rfl (by decide) rfl (y_move rfl) ?_
            refine js_take rfl (by decide) rfl (y_indexAddr_slice (off := oo + i) rfl rfl (by omega) (by omega) (by omega)) ?_
            refine js_take rfl (by decide) rfl (y_load_old rfl hc (by simp)) ?_
            refine js_take rfl (by decide) rfl (y_move rfl) ?_
            refine js_take rfl (by decide) rfl (y_move rfl) ?_
            refine js_take rfl (by decide) rfl (y_indexAddr_slice (off := oo + i) rfl rfl (by omega) (by omega) (by omega)) ?_
            refine js_take rfl (by decide) rfl (y_load_old rfl hc (by simp)) ?_
            refine js_take rfl (by decide) rfl (y_len_str rfl) ?_
            refine js_take rfl (by decide) rfl (y_min rfl rfl) ?_
            refine js_take rfl (by decide) rfl (y_substr_hi rfl rfl (by omega) (by omega)) ?_
            refine js_as (congrArg Value.string (cut_eq _ 20)) ?_
            refine js_m (by intros; rename_i h; first | exact h | exact h.pop | exact h.pop.pop | exact h.pop.pop.pop | exact h.pop.pop.pop.pop | exact h.pop.pop.pop.pop.pop | exact h.pop.pop.pop.pop.pop.pop | exact h.part .nil) rfl (by decide) rfl (m_buildSlice (by decide) (Built.cell rfl rfl rfl (by repeat constructor) Built.nil)) (fun b28 => ?_)
            refine js_nil ?_
            refine jl_m2 rfl (by decide) rfl (m_append rfl rfl (by first | exact del0 | exact del1 | exact del2 | exact del3 | exact del4) (by first | exact del0 | exact del1 | exact del2 | exact del3 | exact del4) rfl (by omega) (by omega)) (fun a29 c29 => ?_)
            refine jl_y rfl (by decide) rfl (y_assign rfl) ?_
            refine jl_nil ?_
            refine jq_block ?_
            refine jq_then ?_
            -- region 4
            refine jc_region ?_
            refine jl_y rfl (by decide) rfl (y_move rfl) ?_
            refine jl_y rfl (by decide) rfl (y_add_fits rfl rfl (by simp only [fits]; omega)) ?_
            refine jl_y rfl (by decide) rfl (y_assign rfl) ?_
            refine jl_nil ?_
            refine jq_round3 (i := i) (j := adn) (l := cn) (i + 1) a29 c29 ?_ ?_ ?_
            · omega
            · exact ⟨rfl, rfl, lk_int rfl (by omega), trivial⟩
            · exact fun _ h => ⟨by omega, h.cast (by rw [cutL_take (by omega), List.map_append]; rfl)⟩
            )
        · first
          | (exfalso; omega)
          | (
            refine jl_y rfl (by decide) rfl (y_pick_true rfl rfl) ?_
            refine jl_nil ?_
            refine jq_then ?_
            refine jc_false rfl ?_
            refine jc_exit ?_
            refine jq_then_exit ?_
            refine jq_then_exit ?_
            refine jq_hit ?_
            refine jq_then ?_
            refine jc_seq ?_
            -- region 6
            refine jc_region ?_
            refine jl_y rfl (by decide) rfl (y_move rfl) ?_
            refine jl_y rfl (by decide) rfl (y_assign rfl) ?_
            refine jl_nil ?_
            refine jq_then ?_
            refine jc_ret ?_
            refine jq_ret1 rfl rfl ?_
            exact fun w' hw => by
              obtain ⟨e1, e2⟩ := @cutL_end ps i (by omega) hi
              rw [e1] at hw
              rw [← e2]
              exact ⟨(adn, cn), rfl, hw.fresh⟩
            )
        )
    · first
      | (exfalso; omega)
      | (
        refine jl_y rfl (by decide) rfl (y_move rfl) ?_
        refine jl_skip rfl (by decide) rfl ?_
        refine jl_skip rfl (by decide) rfl ?_
        refine jl_y rfl (by decide) rfl (y_pick_false rfl rfl) ?_
        refine jl_nil ?_
        refine jq_then ?_
        refine jc_false rfl ?_
        refine jc_exit ?_
        refine jq_then_exit ?_
        refine jq_then_exit ?_
        refine jq_hit ?_
        refine jq_then ?_
        refine jc_seq ?_
        -- region 6
        refine jc_region ?_
        refine jl_y rfl (by decide) rfl (y_move rfl) ?_
        refine jl_y rfl (by decide) rfl (y_assign rfl) ?_
        refine jl_nil ?_
        refine jq_then ?_
        refine jc_ret ?_
        refine jq_ret1 rfl rfl ?_
        exact fun w' hw => by
          obtain ⟨e1, e2⟩ := @cutL_end ps i (by omega) hi
          rw [e1] at hw
          rw [← e2]
          exact ⟨(adn, cn), rfl, hw.fresh⟩
        )

theorem fixed7_any (w : World) :
    Calls Try.prog 17 #[] w fun e w' => e = .returned (.bool true) ∧ Ch [] w w' := by
  have hz : leafE ⟨#[]⟩ = 4 := (leaf_bad (by decide)).2
  have l1 := @leaf_sign sS 1 1 (by decide) (by decide) sN
  have l3 := @leaf_sign sS 2 3 (by decide) (by decide) sM
  have r1 := root_ok (l := [sHex16]) (by decide)
  have r3 := (root_bad (l := [sHex16, ⟨#[]⟩, ⟨#[]⟩]) (by decide)).2
  refine calls_of (n := 210) (E := []) (W := Hp w [] []) Try.func17 rfl rfl (Nat.le_of_ble_eq_true rfl) rfl (Hp.nil _ _) ?_
  refine jc_seq ?_
  -- region 0
  refine jc_region ?_
  refine jl_y rfl (by decide) rfl (y_assign rfl) ?_
  refine jl_nil ?_
  refine jq_then ?_
  refine jc_seq ?_
  -- region 1
  refine jc_region ?_
  refine jl_ncall rfl (by decide) rfl (goes_func rfl) (fun w1 hw1 => mnew_ok (sS) (1) w1 (by decide) (by decide)) (fun _ => rfl) (by first | (intro A hA; cases hA; done) | intro A hA k hk; simp only [List.mem_cons, List.not_mem_nil, or_false] at hA; first | (rcases hA with rfl | rfl | rfl <;> (cases hk; simp)) | (rcases hA with rfl | rfl <;> (cases hk; simp)) | (subst hA; cases hk; simp)) (fun bk wpk wk hpk hnk hfk => ?_)
  have hallk := hnk.hp (hpk)
  have hkk := hfk [] (hpk.feet_lt (by intro k hk; first | (cases hk; done) | (simp only [List.mem_cons, List.not_mem_nil, or_false] at hk; subst hk; exact ⟨_, mem0, rfl⟩)))
  refine jl_y rfl (by decide) rfl (y_move rfl) ?_
  refine jl_y rfl (by decide) rfl (y_extract rfl rfl) ?_
  refine jl_y rfl (by decide) rfl (y_extract rfl rfl) ?_
  refine jl_y rfl (by decide) rfl (y_assign rfl) ?_
  refine jl_y rfl (by decide) rfl (y_assign rfl) ?_
  refine jl_nil ?_
  refine jq_then ?_
  refine jc_seq ?_
  -- region 2
  refine jc_region ?_
  refine jl_pcall rfl (by decide) rfl (goes_func rfl) (fun w1 hw1 => pcall hw1 (mnew_bad sS 5 w1 (by decide))) ?_
  refine jl_y rfl (by decide) rfl (y_move rfl) ?_
  refine jl_y rfl (by decide) rfl (y_extract rfl rfl) ?_
  refine jl_y rfl (by decide) rfl (y_extract rfl rfl) ?_
  refine jl_y rfl (by decide) rfl (y_assign rfl) ?_
  refine jl_y rfl (by decide) rfl (y_assign rfl) ?_
  refine jl_nil ?_
  refine jq_then ?_
  refine jc_seq ?_
  refine jc_seq ?_
  -- region 3
  refine jc_region ?_
  refine jl_y rfl (by decide) rfl (y_move rfl) ?_
  refine jl_y rfl (by decide) rfl (y_eql_nil rfl rfl) ?_
  refine jl_as (u := .bool false) rfl ?_
  refine jl_y rfl (by decide) rfl (y_move rfl) ?_
  refine jl_y rfl (by decide) rfl (y_move rfl) ?_
  refine jl_y rfl (by decide) rfl (y_neq rfl rfl) ?_
  refine jl_prop (fun h40 => ?_) (fun h40 => ?_)
  · first
    | (exfalso; omega)
    | (
      refine jl_y rfl (by decide) rfl (y_pick_false rfl rfl) ?_
      refine jl_nil ?_
      refine jq_then ?_
      refine jc_true rfl ?_
      refine jc_seq ?_
      -- region 4
      refine jc_region ?_
      refine jl_y rfl (by decide) rfl (y_assign rfl) ?_
      refine jl_nil ?_
      refine jq_then ?_
      refine jc_ret ?_
      refine jq_then_ret ?_
      refine jq_ret1 rfl rfl ?_
      exact fun _ hw => ⟨rfl, (hallk.next hw (by intro k hk; simp only [List.mem_cons, List.not_mem_nil, or_false] at hk; first | (rcases hk with rfl | rfl | rfl <;> first | exact ⟨_, mem0, rfl⟩ | exact ⟨_, mem1, rfl⟩ | exact ⟨_, mem2, rfl⟩) | (rcases hk with rfl | rfl <;> first | exact ⟨_, mem0, rfl⟩ | exact ⟨_, mem1, rfl⟩ | exact ⟨_, mem2, rfl⟩) | (subst hk; first | exact ⟨_, mem0, rfl⟩ | exact ⟨_, mem1, rfl⟩ | exact ⟨_, mem2, rfl⟩))).ch⟩
      )
  · first
    | (exfalso; omega)
    | (
      refine jl_y rfl (by decide) rfl (y_pick_false rfl rfl) ?_
      refine jl_nil ?_
      refine jq_then ?_
      refine jc_false rfl ?_
      refine jc_skip ?_
      refine jq_then ?_
      refine jc_seq ?_
      -- region 5
      refine jc_region ?_
      refine jl_y rfl (by decide) rfl (y_move rfl) ?_
      refine jl_ucallH rfl (by decide) rfl (goes_func rfl) (by rfl) (fun w1 hw1 => ksign_all [bk.2] bk.1 bk.2 (sS) (1) w1 (hkk.keep hw1) (by simp) (by decide) (by decide) (sM) (by first | decide | omega) (0) (hw1.get mem0)) (by first | exact rep0 | exact rep1 | exact rep2 | exact rep3 | exact rep4) ?_
      refine jl_y rfl (by decide) rfl (y_move rfl) ?_
      refine jl_y rfl (by decide) rfl (y_extract rfl rfl) ?_
      refine jl_as (u := .string (signK sS 1 0 sM)) (congrArg Value.string (sg_ok (by decide)).1) ?_
      refine jl_y rfl (by decide) rfl (y_extract rfl rfl) ?_
      refine jl_as (u := .int .i64 0) (congrArg (Value.int .i64) (@sg_ok sS 1 0 sM (by decide)).2.1) ?_
      refine jl_y rfl (by decide) rfl (y_assign rfl) ?_
      refine jl_y rfl (by decide) rfl (y_assign rfl) ?_
      refine jl_nil ?_
      refine jq_then ?_
      refine jc_seq ?_
      -- region 6
      refine jc_region ?_
      refine jl_y rfl (by decide) rfl (y_move rfl) ?_
      first | refine jl_y rfl (by decide) rfl (y_nilCheck rfl) ?_ | refine jl_y rfl (by decide) rfl (y_nilCheck_func rfl) ?_
      refine jl_y rfl (by decide) rfl (y_fieldAddr rfl) ?_
      refine jl_y rfl (by decide) rfl (y_load_old rfl hkk.2.1 hkk.1) ?_
      refine jl_pcall rfl (by decide) rfl (goes_func rfl) (fun w1 hw1 => pcall hw1 (cleft_any bk.2 1 2 w1 (CellAt.of_cells (hw1.get (A := .cells bk.2 [.int .i64 ((1 : Nat) : Int), .int .i64 ((2 ^ 1 : Nat) : Int)]) mem0) rfl) (CellAt.of_cells (hw1.get (A := .cells bk.2 [.int .i64 ((1 : Nat) : Int), .int .i64 ((2 ^ 1 : Nat) : Int)]) mem0) rfl) (by decide) (by decide) (by decide))) ?_
      refine jl_y rfl (by decide) rfl (y_assign rfl) ?_
      refine jl_nil ?_
      refine jq_then ?_
      refine jc_seq ?_
      -- region 7
      refine jc_region ?_
      refine jl_y rfl (by decide) rfl (y_move rfl) ?_
      refine jl_ucallH rfl (by decide) rfl (goes_func rfl) (by rfl) (fun w1 hw1 => ksign_all [bk.2] bk.1 bk.2 (sS) (1) w1 (hkk.keep hw1) (by simp) (by decide) (by decide) (sN) (by first | decide | omega) (1) (hw1.get mem0)) (by first | exact rep0 | exact rep1 | exact rep2 | exact rep3 | exact rep4) ?_
      refine jl_y rfl (by decide) rfl (y_move rfl) ?_
      refine jl_y rfl (by decide) rfl (y_extract rfl rfl) ?_
      refine jl_as (u := .string (signK sS 1 1 sN)) (congrArg Value.string (sg_ok (by decide)).1) ?_
      refine jl_y rfl (by decide) rfl (y_extract rfl rfl) ?_
      refine jl_as (u := .int .i64 0) (congrArg (Value.int .i64) (@sg_ok sS 1 1 sN (by decide)).2.1) ?_
      refine jl_y rfl (by decide) rfl (y_assign rfl) ?_
      refine jl_y rfl (by decide) rfl (y_assign rfl) ?_
      refine jl_nil ?_
      refine jq_then ?_
      refine jc_seq ?_
      -- region 8
      refine jc_region ?_
      refine jl_y rfl (by decide) rfl (y_move rfl) ?_
      refine jl_ucallH rfl (by decide) rfl (goes_func rfl) (by rfl) (fun w1 hw1 => ksign_all [bk.2] bk.1 bk.2 (sS) (1) w1 (hkk.keep hw1) (by simp) (by decide) (by decide) (sO) (by first | decide | omega) (2) (hw1.get mem0)) (by first | exact rep0 | exact rep1 | exact rep2 | exact rep3 | exact rep4) ?_
      refine jl_y rfl (by decide) rfl (y_move rfl) ?_
      refine jl_y rfl (by decide) rfl (y_extract rfl rfl) ?_
      refine jl_y rfl (by decide) rfl (y_extract rfl rfl) ?_
      refine jl_as (u := .int .i64 14) (congrArg (Value.int .i64) (@sg_bad sS 1 2 sO (by decide)).2.1) ?_
      refine jl_y rfl (by decide) rfl (y_assign rfl) ?_
      refine jl_y rfl (by decide) rfl (y_assign rfl) ?_
      refine jl_nil ?_
      refine jq_then ?_
      refine jc_seq ?_
      -- region 9
      refine jc_region ?_
      refine jl_y rfl (by decide) rfl (y_move rfl) ?_
      refine jl_pcall rfl (by decide) rfl (goes_func rfl) (fun w1 hw1 => pcall hw1 (leaf_any (signK sS 1 1 sN) w1 (by rw [signK_size sS (by decide) sN]; decide))) ?_
      refine jl_y rfl (by decide) rfl (y_move rfl) ?_
      refine jl_y rfl (by decide) rfl (y_extract rfl rfl) ?_
      refine jl_as (u := .int .i64 1) (congrArg (Value.int .i64) l1.1) ?_
      refine jl_y rfl (by decide) rfl (y_extract rfl rfl) ?_
      refine jl_as (u := .int .i64 0) (congrArg (Value.int .i64) l1.2) ?_
      refine jl_y rfl (by decide) rfl (y_assign rfl) ?_
      refine jl_y rfl (by decide) rfl (y_assign rfl) ?_
      refine jl_nil ?_
      refine jq_then ?_
      refine jc_seq ?_
      -- region 10
      refine jc_region ?_
      refine jl_pcall rfl (by decide) rfl (goes_func rfl) (fun w1 hw1 => pcall hw1 (leaf_any ⟨#[]⟩ w1 (by decide))) ?_
      refine jl_y rfl (by decide) rfl (y_move rfl) ?_
      refine jl_y rfl (by decide) rfl (y_extract rfl rfl) ?_
      refine jl_y rfl (by decide) rfl (y_extract rfl rfl) ?_
      refine jl_as (u := .int .i64 4) (congrArg (Value.int .i64) hz) ?_
      refine jl_y rfl (by decide) rfl (y_assign rfl) ?_
      refine jl_y rfl (by decide) rfl (y_assign rfl) ?_
      refine jl_nil ?_
      refine jq_then ?_
      refine jc_seq ?_
      -- region 11
      refine jc_region ?_
      refine jl_ncall rfl (by decide) rfl (goes_func rfl) (fun w1 hw1 => mnew_ok (sS) (2) w1 (by decide) (by decide)) (fun _ => rfl) (by first | (intro A hA; cases hA; done) | intro A hA k hk; simp only [List.mem_cons, List.not_mem_nil, or_false] at hA; first | (rcases hA with rfl | rfl | rfl <;> (cases hk; simp)) | (rcases hA with rfl | rfl <;> (cases hk; simp)) | (subst hA; cases hk; simp)) (fun bo wpo wo hpo hno hfo => ?_)
      have hallo := hno.hp (hallk.next hpo (by intro k hk; simp only [List.mem_cons, List.not_mem_nil, or_false] at hk; first | (rcases hk with rfl | rfl | rfl <;> first | exact ⟨_, mem0, rfl⟩ | exact ⟨_, mem1, rfl⟩ | exact ⟨_, mem2, rfl⟩) | (rcases hk with rfl | rfl <;> first | exact ⟨_, mem0, rfl⟩ | exact ⟨_, mem1, rfl⟩ | exact ⟨_, mem2, rfl⟩) | (subst hk; first | exact ⟨_, mem0, rfl⟩ | exact ⟨_, mem1, rfl⟩ | exact ⟨_, mem2, rfl⟩)))
      replace hkk := hkk.grow hpo hno rfl
      have hko := hfo [bk.2] (hpo.feet_lt (by intro k hk; first | (cases hk; done) | (simp only [List.mem_cons, List.not_mem_nil, or_false] at hk; subst hk; exact ⟨_, mem0, rfl⟩)))
      refine jl_y rfl (by decide) rfl (y_move rfl) ?_
      refine jl_y rfl (by decide) rfl (y_extract rfl rfl) ?_
      refine jl_y rfl (by decide) rfl (y_extract rfl rfl) ?_
      refine jl_y rfl (by decide) rfl (y_assign rfl) ?_
      refine jl_y rfl (by decide) rfl (y_assign rfl) ?_
      refine jl_nil ?_
      refine jq_then ?_
      refine jc_seq ?_
      refine jc_seq ?_
      -- region 12
      refine jc_region ?_
      refine jl_y rfl (by decide) rfl (y_move rfl) ?_
      refine jl_y rfl (by decide) rfl (y_eql_nil rfl rfl) ?_
      refine jl_as (u := .bool false) rfl ?_
      refine jl_nil ?_
      refine jq_then ?_
      refine jc_false rfl ?_
      refine jc_skip ?_
      refine jq_then ?_
      refine jc_seq ?_
      -- region 14
      refine jc_schedC (Hp wo [bo.2, bk.2] []) 11 [(0, true), (1, true), (2, true), (3, true), (5, true), (6, true), (7, true), (8, true), (4, false), (9, false), (10, true)] rfl (by kernel_rfl) (fun _ _ _ _ h => h) (fun _ h => (h.part .nil).drew) (fun _ h => h.drew) ?_
      simp only [pickO, nthO, List.drop_succ_cons, List.drop_zero]
      refine js_take rfl (by decide) rfl (y_move rfl) ?_
      first | refine js_take rfl (by decide) rfl (y_nilCheck rfl) ?_ | refine js_take rfl (by decide) rfl (y_nilCheck_func rfl) ?_
      refine js_take rfl (by decide) rfl (y_fieldAddr rfl) ?_
      refine js_take rfl (by decide) rfl (y_load_old rfl hko.2.1 hko.1) ?_
      refine js_take rfl (by decide) rfl (y_move rfl) ?_
      first | refine js_take rfl (by decide) rfl (y_nilCheck rfl) ?_ | refine js_take rfl (by decide) rfl (y_nilCheck_func rfl) ?_
      refine js_take rfl (by decide) rfl (y_fieldAddr rfl) ?_
      refine js_take rfl (by decide) rfl (y_load_old rfl hko.2.1 hko.1) ?_
      refine js_ucallH rfl (by decide) rfl (goes_func rfl) (by rfl) (fun w1 hw1 => burn_all bo.2 0 4 3 w1 (hw1.get mem0)) (by first | exact rep0 | exact rep1 | exact rep2 | exact rep3 | exact rep4) (by intro _ h; first | exact h | exact h.pop | exact h.pop.pop | exact h.pop.pop.pop | exact h.pop.pop.pop.pop | exact h.pop.pop.pop.pop.pop | exact h.pop.pop.pop.pop.pop.pop | exact h.part .nil) ?_
      refine js_as (u := .int .i64 0) (congrArg (Value.int .i64) (br_ok (n := 0) (by decide)).1) ?_
      refine js_ucallH rfl (by decide) rfl (goes_func rfl) (by rfl) (fun w1 hw1 => burn_all bo.2 3 4 5 w1 (hw1.get mem0)) (by first | exact rep0 | exact rep1 | exact rep2 | exact rep3 | exact rep4) (by intro _ h; first | exact h | exact h.pop | exact h.pop.pop | exact h.pop.pop.pop | exact h.pop.pop.pop.pop | exact h.pop.pop.pop.pop.pop | exact h.pop.pop.pop.pop.pop.pop | exact h.part .nil) ?_
      refine js_as (u := .int .i64 1) (congrArg (Value.int .i64) (br_bad (n := 0) (by decide)).1) ?_
      refine js_take rfl (by decide) rfl (y_assign rfl) ?_
      refine js_nil ?_
      refine jl_y rfl (by decide) rfl (y_assign rfl) ?_
      refine jl_nil ?_
      refine jq_then ?_
      refine jc_seq ?_
      -- region 15
      refine jc_region ?_
      refine jl_y rfl (by decide) rfl (y_move rfl) ?_
      refine jl_ucallH rfl (by decide) rfl (goes_func rfl) (by rfl) (fun w1 hw1 => ksign_all [bo.2, bk.2] bo.1 bo.2 (sS) (2) w1 (hko.keep hw1) (by simp) (by decide) (by decide) (sM) (by first | decide | omega) (3) (hw1.get mem0)) (by first | exact rep0 | exact rep1 | exact rep2 | exact rep3 | exact rep4) ?_
      refine jl_y rfl (by decide) rfl (y_move rfl) ?_
      refine jl_y rfl (by decide) rfl (y_extract rfl rfl) ?_
      refine jl_as (u := .string (signK sS 2 3 sM)) (congrArg Value.string (sg_ok (by decide)).1) ?_
      refine jl_y rfl (by decide) rfl (y_extract rfl rfl) ?_
      refine jl_as (u := .int .i64 0) (congrArg (Value.int .i64) (@sg_ok sS 2 3 sM (by decide)).2.1) ?_
      refine jl_y rfl (by decide) rfl (y_assign rfl) ?_
      refine jl_y rfl (by decide) rfl (y_assign rfl) ?_
      refine jl_nil ?_
      refine jq_then ?_
      refine jc_seq ?_
      -- region 16
      refine jc_region ?_
      refine jl_y rfl (by decide) rfl (y_move rfl) ?_
      refine jl_pcall rfl (by decide) rfl (goes_func rfl) (fun w1 hw1 => pcall hw1 (leaf_any (signK sS 2 3 sM) w1 (by rw [signK_size sS (by decide) sM]; decide))) ?_
      refine jl_y rfl (by decide) rfl (y_move rfl) ?_
      refine jl_y rfl (by decide) rfl (y_extract rfl rfl) ?_
      refine jl_as (u := .int .i64 3) (congrArg (Value.int .i64) l3.1) ?_
      refine jl_y rfl (by decide) rfl (y_extract rfl rfl) ?_
      refine jl_as (u := .int .i64 0) (congrArg (Value.int .i64) l3.2) ?_
      refine jl_y rfl (by decide) rfl (y_assign rfl) ?_
      refine jl_y rfl (by decide) rfl (y_assign rfl) ?_
      refine jl_nil ?_
      refine jq_then ?_
      refine jc_seq ?_
      -- region 17
      refine jc_region ?_
      refine jl_m rfl (by decide) rfl (m_buildSlice (by decide) (Built.cell rfl rfl rfl (by repeat constructor) Built.nil)) (fun b98 => ?_)
      refine jl_pcall rfl (by decide) rfl (goes_func rfl) (fun w1 hw1 => pcall hw1 (root1_any _ _ [sHex16] w1 (by decide) (Strs.of_row (hw1.get mem0)))) ?_
      refine jl_y rfl (by decide) rfl (y_move rfl) ?_
      refine jl_y rfl (by decide) rfl (y_extract rfl rfl) ?_
      refine jl_y rfl (by decide) rfl (y_extract rfl rfl) ?_
      refine jl_y rfl (by decide) rfl (y_assign rfl) ?_
      refine jl_y rfl (by decide) rfl (y_assign rfl) ?_
      refine jl_nil ?_
      refine jq_then ?_
      refine jc_seq ?_
      -- region 18
      refine jc_region ?_
      refine jl_m rfl (by decide) rfl (m_buildSlice (by decide) (Built.cell rfl rfl rfl (by repeat constructor) (Built.cell rfl rfl rfl (by repeat constructor) (Built.cell rfl rfl rfl (by repeat constructor) Built.nil)))) (fun b103 => ?_)
      refine jl_pcall rfl (by decide) rfl (goes_func rfl) (fun w1 hw1 => pcall hw1 (root1_any _ _ [sHex16, ⟨#[]⟩, ⟨#[]⟩] w1 (by decide) (Strs.of_row (hw1.get mem0)))) ?_
      refine jl_y rfl (by decide) rfl (y_move rfl) ?_
      refine jl_y rfl (by decide) rfl (y_extract rfl rfl) ?_
      refine jl_y rfl (by decide) rfl (y_extract rfl rfl) ?_
      refine jl_as (u := .int .i64 1) (congrArg (Value.int .i64) r3) ?_
      refine jl_y rfl (by decide) rfl (y_assign rfl) ?_
      refine jl_y rfl (by decide) rfl (y_assign rfl) ?_
      refine jl_nil ?_
      refine jq_then ?_
      refine jc_seq ?_
      -- region 19
      refine jc_region ?_
      refine jl_y rfl (by decide) rfl (y_move rfl) ?_
      refine jl_y rfl (by decide) rfl (y_eql rfl rfl) ?_
      refine jl_prop (fun h108 => ?_) (fun h108 => ?_)
      · first
        | (exfalso; omega)
        | (
          refine jl_y rfl (by decide) rfl (y_move rfl) ?_
          refine jl_y rfl (by decide) rfl (y_move rfl) ?_
          refine jl_y rfl (by decide) rfl (y_eql rfl rfl) ?_
          refine jl_prop (fun h111 => ?_) (fun h111 => ?_)
          · first
            | (exfalso; omega)
            | (
              refine jl_y rfl (by decide) rfl (y_pick_true rfl rfl) ?_
              refine jl_y rfl (by decide) rfl (y_move rfl) ?_
              refine jl_y rfl (by decide) rfl (y_move rfl) ?_
              refine jl_y rfl (by decide) rfl (y_eql rfl rfl) ?_
              refine jl_prop (fun h115 => ?_) (fun h115 => ?_)
              · first
                | (exfalso; omega)
                | (
                  refine jl_y rfl (by decide) rfl (y_pick_true rfl rfl) ?_
                  refine jl_y rfl (by decide) rfl (y_move rfl) ?_
                  refine jl_y rfl (by decide) rfl (y_move rfl) ?_
                  refine jl_y rfl (by decide) rfl (y_eql rfl rfl) ?_
                  refine jl_prop (fun h119 => ?_) (fun h119 => ?_)
                  · first
                    | (exfalso; omega)
                    | (
                      refine jl_y rfl (by decide) rfl (y_pick_true rfl rfl) ?_
                      refine jl_y rfl (by decide) rfl (y_move rfl) ?_
                      refine jl_y rfl (by decide) rfl (y_move rfl) ?_
                      refine jl_y rfl (by decide) rfl (y_eql rfl rfl) ?_
                      refine jl_prop (fun h123 => ?_) (fun h123 => ?_)
                      · first
                        | (exfalso; omega)
                        | (
                          refine jl_y rfl (by decide) rfl (y_pick_true rfl rfl) ?_
                          refine jl_y rfl (by decide) rfl (y_move rfl) ?_
                          refine jl_y rfl (by decide) rfl (y_move rfl) ?_
                          refine jl_y rfl (by decide) rfl (y_len_str rfl) ?_
                          refine jl_as (u := .int .i64 305) (congrArg (Value.int .i64) (by rw [signK_size sS (by decide) sM]; rfl)) ?_
                          refine jl_y rfl (by decide) rfl (y_eql rfl rfl) ?_
                          refine jl_prop (fun h128 => ?_) (fun h128 => ?_)
                          · first
                            | (exfalso; omega)
                            | (
                              refine jl_y rfl (by decide) rfl (y_pick_true rfl rfl) ?_
                              refine jl_y rfl (by decide) rfl (y_move rfl) ?_
                              refine jl_y rfl (by decide) rfl (y_move rfl) ?_
                              refine jl_pcall rfl (by decide) rfl (goes_func rfl) (fun w1 hw1 => pcall hw1 (kroot_any _ bk.1 bk.2 sS 1 w1 (hkk.keep hw1))) ?_
                              refine jl_y rfl (by decide) rfl (y_move rfl) ?_
                              refine jl_pcall rfl (by decide) rfl (goes_func rfl) (fun w1 hw1 => pcall hw1 (verifyK_any (rootK sS 1) sM (signK sS 1 0 sM) w1 (by decide) (by rw [signK_size sS (by decide) sM]; decide))) ?_
                              refine jl_as (u := .bool true) (congrArg Value.bool (verK_sign sS (by decide) (by decide) sM)) ?_
                              refine jl_y rfl (by decide) rfl (y_pick_true rfl rfl) ?_
                              refine jl_y rfl (by decide) rfl (y_move rfl) ?_
                              refine jl_y rfl (by decide) rfl (y_move rfl) ?_
                              refine jl_pcall rfl (by decide) rfl (goes_func rfl) (fun w1 hw1 => pcall hw1 (kroot_any _ bk.1 bk.2 sS 1 w1 (hkk.keep hw1))) ?_
                              refine jl_y rfl (by decide) rfl (y_move rfl) ?_
                              refine jl_pcall rfl (by decide) rfl (goes_func rfl) (fun w1 hw1 => pcall hw1 (verifyK_any (rootK sS 1) sN (signK sS 1 1 sN) w1 (by decide) (by rw [signK_size sS (by decide) sN]; decide))) ?_
                              refine jl_as (u := .bool true) (congrArg Value.bool (verK_sign sS (by decide) (by decide) sN)) ?_
                              refine jl_y rfl (by decide) rfl (y_pick_true rfl rfl) ?_
                              refine jl_y rfl (by decide) rfl (y_move rfl) ?_
                              refine jl_y rfl (by decide) rfl (y_move rfl) ?_
                              refine jl_pcall rfl (by decide) rfl (goes_func rfl) (fun w1 hw1 => pcall hw1 (verifyK_any ⟨#[]⟩ sM (signK sS 1 0 sM) w1 (by decide) (by rw [signK_size sS (by decide) sM]; decide))) ?_
                              refine jl_as (u := .bool false) (congrArg Value.bool (ver_no (fun h => absurd h.2 (by decide)))) ?_
                              refine jl_y rfl (by decide) rfl (y_not rfl) ?_
                              refine jl_y rfl (by decide) rfl (y_pick_true rfl rfl) ?_
                              refine jl_y rfl (by decide) rfl (y_move rfl) ?_
                              refine jl_y rfl (by decide) rfl (y_move rfl) ?_
                              refine jl_y rfl (by decide) rfl (y_eql rfl rfl) ?_
                              refine jl_prop (fun h149 => ?_) (fun h149 => ?_)
                              · first
                                | (exfalso; omega)
                                | (
                                  refine jl_y rfl (by decide) rfl (y_pick_true rfl rfl) ?_
                                  refine jl_y rfl (by decide) rfl (y_move rfl) ?_
                                  refine jl_y rfl (by decide) rfl (y_move rfl) ?_
                                  refine jl_y rfl (by decide) rfl (y_eql rfl rfl) ?_
                                  refine jl_prop (fun h153 => ?_) (fun h153 => ?_)
                                  · first
                                    | (exfalso; omega)
                                    | (
                                      refine jl_y rfl (by decide) rfl (y_pick_true rfl rfl) ?_
                                      refine jl_y rfl (by decide) rfl (y_move rfl) ?_
                                      refine jl_y rfl (by decide) rfl (y_move rfl) ?_
                                      refine jl_y rfl (by decide) rfl (y_eql rfl rfl) ?_
                                      refine jl_prop (fun h157 => ?_) (fun h157 => ?_)
                                      · first
                                        | (exfalso; omega)
                                        | (
                                          refine jl_y rfl (by decide) rfl (y_pick_true rfl rfl) ?_
                                          refine jl_y rfl (by decide) rfl (y_move rfl) ?_
                                          refine jl_y rfl (by decide) rfl (y_move rfl) ?_
                                          refine jl_y rfl (by decide) rfl (y_eql rfl rfl) ?_
                                          refine jl_prop (fun h161 => ?_) (fun h161 => ?_)
                                          · first
                                            | (exfalso; omega)
                                            | (
                                              refine jl_y rfl (by decide) rfl (y_pick_true rfl rfl) ?_
                                              refine jl_y rfl (by decide) rfl (y_move rfl) ?_
                                              refine jl_y rfl (by decide) rfl (y_move rfl) ?_
                                              refine jl_y rfl (by decide) rfl (y_eql rfl rfl) ?_
                                              refine jl_prop (fun h165 => ?_) (fun h165 => ?_)
                                              · first
                                                | (exfalso; omega)
                                                | (
                                                  refine jl_y rfl (by decide) rfl (y_pick_true rfl rfl) ?_
                                                  refine jl_y rfl (by decide) rfl (y_move rfl) ?_
                                                  refine jl_y rfl (by decide) rfl (y_move rfl) ?_
                                                  refine jl_y rfl (by decide) rfl (y_eql rfl rfl) ?_
                                                  refine jl_prop (fun h169 => ?_) (fun h169 => ?_)
                                                  · first
                                                    | (exfalso; omega)
                                                    | (
                                                      refine jl_y rfl (by decide) rfl (y_pick_true rfl rfl) ?_
                                                      refine jl_y rfl (by decide) rfl (y_move rfl) ?_
                                                      refine jl_y rfl (by decide) rfl (y_move rfl) ?_
                                                      refine jl_y rfl (by decide) rfl (y_eql rfl rfl) ?_
                                                      refine jl_prop (fun h173 => ?_) (fun h173 => ?_)
                                                      · first
                                                        | (exfalso; omega)
                                                        | (
                                                          refine jl_y rfl (by decide) rfl (y_pick_true rfl rfl) ?_
                                                          refine jl_y rfl (by decide) rfl (y_move rfl) ?_
                                                          refine jl_y rfl (by decide) rfl (y_move rfl) ?_
                                                          refine jl_y rfl (by decide) rfl (y_eql rfl rfl) ?_
                                                          refine jl_prop (fun h177 => ?_) (fun h177 => ?_)
                                                          · first
                                                            | (exfalso; omega)
                                                            | (
                                                              refine jl_y rfl (by decide) rfl (y_pick_true rfl rfl) ?_
                                                              refine jl_y rfl (by decide) rfl (y_move rfl) ?_
                                                              refine jl_y rfl (by decide) rfl (y_move rfl) ?_
                                                              first | refine jl_y rfl (by decide) rfl (y_nilCheck rfl) ?_ | refine jl_y rfl (by decide) rfl (y_nilCheck_func rfl) ?_
                                                              refine jl_y rfl (by decide) rfl (y_fieldAddr rfl) ?_
                                                              refine jl_y rfl (by decide) rfl (y_load_old rfl hko.2.1 hko.1) ?_
                                                              refine jl_pcall rfl (by decide) rfl (goes_func rfl) (fun w1 hw1 => pcall hw1 (cnext_any bo.2 4 w1 (CellAt.of_cells (hw1.get (A := .cells bo.2 [.int .i64 ((4 : Nat) : Int), .int .i64 ((2 ^ 2 : Nat) : Int)]) mem2) rfl))) ?_
                                                              refine jl_y rfl (by decide) rfl (y_eql rfl rfl) ?_
                                                              refine jl_prop (fun h185 => ?_) (fun h185 => ?_)
                                                              · first
                                                                | (exfalso; omega)
                                                                | (
                                                                  refine jl_y rfl (by decide) rfl (y_pick_true rfl rfl) ?_
                                                                  refine jl_y rfl (by decide) rfl (y_move rfl) ?_
                                                                  refine jl_y rfl (by decide) rfl (y_move rfl) ?_
                                                                  first | refine jl_y rfl (by decide) rfl (y_nilCheck rfl) ?_ | refine jl_y rfl (by decide) rfl (y_nilCheck_func rfl) ?_
                                                                  refine jl_y rfl (by decide) rfl (y_fieldAddr rfl) ?_
                                                                  refine jl_y rfl (by decide) rfl (y_load_old rfl hko.2.1 hko.1) ?_
                                                                  refine jl_pcall rfl (by decide) rfl (goes_func rfl) (fun w1 hw1 => pcall hw1 (cleft_any bo.2 4 4 w1 (CellAt.of_cells (hw1.get (A := .cells bo.2 [.int .i64 ((4 : Nat) : Int), .int .i64 ((2 ^ 2 : Nat) : Int)]) mem2) rfl) (CellAt.of_cells (hw1.get (A := .cells bo.2 [.int .i64 ((4 : Nat) : Int), .int .i64 ((2 ^ 2 : Nat) : Int)]) mem2) rfl) (by decide) (by decide) (by decide))) ?_
                                                                  refine jl_y rfl (by decide) rfl (y_eql rfl rfl) ?_
                                                                  refine jl_prop (fun h193 => ?_) (fun h193 => ?_)
                                                                  · first
                                                                    | (exfalso; omega)
                                                                    | (
                                                                      refine jl_y rfl (by decide) rfl (y_pick_true rfl rfl) ?_
                                                                      refine jl_y rfl (by decide) rfl (y_move rfl) ?_
                                                                      refine jl_y rfl (by decide) rfl (y_move rfl) ?_
                                                                      refine jl_y rfl (by decide) rfl (y_len_str rfl) ?_
                                                                      refine jl_as (u := .int .i64 321) (congrArg (Value.int .i64) (by rw [signK_size sS (by decide) sM]; rfl)) ?_
                                                                      refine jl_y rfl (by decide) rfl (y_eql rfl rfl) ?_
                                                                      refine jl_prop (fun h198 => ?_) (fun h198 => ?_)
                                                                      · first
                                                                        | (exfalso; omega)
                                                                        | (
                                                                          refine jl_y rfl (by decide) rfl (y_pick_true rfl rfl) ?_
                                                                          refine jl_y rfl (by decide) rfl (y_move rfl) ?_
                                                                          refine jl_y rfl (by decide) rfl (y_move rfl) ?_
                                                                          refine jl_m rfl (by decide) rfl (m_buildSlice (by decide) (Built.cell rfl rfl rfl (by repeat constructor) (Built.cell rfl rfl rfl (by repeat constructor) Built.nil))) (fun b202 => ?_)
                                                                          refine jl_pcall rfl (by decide) rfl (goes_func rfl) (fun w1 hw1 => pcall hw1 (rtag_any strRoot (some ⟨b202, 0, none⟩) 2 [⟨#[0]⟩, sHex16] w1 (by decide) (by simp) (all2 (by decide) (by decide)) (Strs.of_row (hw1.get mem0)))) ?_
                                                                          refine jl_y rfl (by decide) rfl (y_seql rfl rfl) ?_
                                                                          refine jl_as (u := .bool true) (congrArg (fun b => Value.bool b) (decide_eq_true (r1.1.trans rfl))) ?_
                                                                          refine jl_y rfl (by decide) rfl (y_pick_true rfl rfl) ?_
                                                                          refine jl_y rfl (by decide) rfl (y_move rfl) ?_
                                                                          refine jl_y rfl (by decide) rfl (y_move rfl) ?_
                                                                          refine jl_y rfl (by decide) rfl (y_eql rfl rfl) ?_
                                                                          refine jl_y rfl (by decide) rfl (y_pick_true rfl rfl) ?_
                                                                          refine jl_y rfl (by decide) rfl (y_assign rfl) ?_
                                                                          refine jl_nil ?_
                                                                          refine jq_then ?_
                                                                          refine jc_ret ?_
                                                                          refine jq_ret1 rfl rfl ?_
                                                                          exact fun _ hw => ⟨rfl, (hallo.next hw (by intro k hk; simp only [List.mem_cons, List.not_mem_nil, or_false] at hk; first | (rcases hk with rfl | rfl | rfl <;> first | exact ⟨_, mem0, rfl⟩ | exact ⟨_, mem1, rfl⟩ | exact ⟨_, mem2, rfl⟩) | (rcases hk with rfl | rfl <;> first | exact ⟨_, mem0, rfl⟩ | exact ⟨_, mem1, rfl⟩ | exact ⟨_, mem2, rfl⟩) | (subst hk; first | exact ⟨_, mem0, rfl⟩ | exact ⟨_, mem1, rfl⟩ | exact ⟨_, mem2, rfl⟩))).ch⟩
                                                                          )
                                                                      · first
                                                                        | (exfalso; omega)
                                                                        | (
                                                                          refine jl_y rfl (by decide) rfl (y_pick_true rfl rfl) ?_
                                                                          refine jl_y rfl (by decide) rfl (y_move rfl) ?_
                                                                          refine jl_skip rfl (by decide) rfl ?_
                                                                          refine jl_skip rfl (by decide) rfl ?_
                                                                          refine jl_skip rfl (by decide) rfl ?_
                                                                          refine jl_skip rfl (by decide) rfl ?_
                                                                          refine jl_y rfl (by decide) rfl (y_pick_false rfl rfl) ?_
                                                                          refine jl_y rfl (by decide) rfl (y_move rfl) ?_
                                                                          refine jl_skip rfl (by decide) rfl ?_
                                                                          refine jl_skip rfl (by decide) rfl ?_
                                                                          refine jl_y rfl (by decide) rfl (y_pick_false rfl rfl) ?_
                                                                          refine jl_y rfl (by decide) rfl (y_assign rfl) ?_
                                                                          refine jl_nil ?_
                                                                          refine jq_then ?_
                                                                          refine jc_ret ?_
                                                                          refine jq_ret1 rfl rfl ?_
                                                                          exact fun _ hw => ⟨rfl, (hallo.next hw (by intro k hk; simp only [List.mem_cons, List.not_mem_nil, or_false] at hk; first | (rcases hk with rfl | rfl | rfl <;> first | exact ⟨_, mem0, rfl⟩ | exact ⟨_, mem1, rfl⟩ | exact ⟨_, mem2, rfl⟩) | (rcases hk with rfl | rfl <;> first | exact ⟨_, mem0, rfl⟩ | exact ⟨_, mem1, rfl⟩ | exact ⟨_, mem2, rfl⟩) | (subst hk; first | exact ⟨_, mem0, rfl⟩ | exact ⟨_, mem1, rfl⟩ | exact ⟨_, mem2, rfl⟩))).ch⟩
                                                                          )
                                                                      )
                                                                  · first
                                                                    | (exfalso; omega)
                                                                    | (
                                                                      refine jl_y rfl (by decide) rfl (y_pick_true rfl rfl) ?_
                                                                      refine jl_y rfl (by decide) rfl (y_move rfl) ?_
                                                                      refine jl_skip rfl (by decide) rfl ?_
                                                                      refine jl_skip rfl (by decide) rfl ?_
                                                                      refine jl_skip rfl (by decide) rfl ?_
                                                                      refine jl_y rfl (by decide) rfl (y_pick_false rfl rfl) ?_
                                                                      refine jl_y rfl (by decide) rfl (y_move rfl) ?_
                                                                      refine jl_skip rfl (by decide) rfl ?_
                                                                      refine jl_skip rfl (by decide) rfl ?_
                                                                      refine jl_skip rfl (by decide) rfl ?_
                                                                      refine jl_skip rfl (by decide) rfl ?_
                                                                      refine jl_y rfl (by decide) rfl (y_pick_false rfl rfl) ?_
                                                                      refine jl_y rfl (by decide) rfl (y_move rfl) ?_
                                                                      refine jl_skip rfl (by decide) rfl ?_
                                                                      refine jl_skip rfl (by decide) rfl ?_
                                                                      refine jl_y rfl (by decide) rfl (y_pick_false rfl rfl) ?_
                                                                      refine jl_y rfl (by decide) rfl (y_assign rfl) ?_
                                                                      refine jl_nil ?_
                                                                      refine jq_then ?_
                                                                      refine jc_ret ?_
                                                                      refine jq_ret1 rfl rfl ?_
                                                                      exact fun _ hw => ⟨rfl, (hallo.next hw (by intro k hk; simp only [List.mem_cons, List.not_mem_nil, or_false] at hk; first | (rcases hk with rfl | rfl | rfl <;> first | exact ⟨_, mem0, rfl⟩ | exact ⟨_, mem1, rfl⟩ | exact ⟨_, mem2, rfl⟩) | (rcases hk with rfl | rfl <;> first | exact ⟨_, mem0, rfl⟩ | exact ⟨_, mem1, rfl⟩ | exact ⟨_, mem2, rfl⟩) | (subst hk; first | exact ⟨_, mem0, rfl⟩ | exact ⟨_, mem1, rfl⟩ | exact ⟨_, mem2, rfl⟩))).ch⟩
                                                                      )
                                                                  )
                                                              · first
                                                                | (exfalso; omega)
                                                                | (
                                                                  refine jl_y rfl (by decide) rfl (y_pick_true rfl rfl) ?_
                                                                  refine jl_y rfl (by decide) rfl (y_move rfl) ?_
                                                                  refine jl_skip rfl (by decide) rfl ?_
                                                                  refine jl_skip rfl (by decide) rfl ?_
                                                                  refine jl_skip rfl (by decide) rfl ?_
                                                                  refine jl_skip rfl (by decide) rfl ?_
                                                                  refine jl_skip rfl (by decide) rfl ?_
                                                                  refine jl_skip rfl (by decide) rfl ?_
                                                                  refine jl_y rfl (by decide) rfl (y_pick_false rfl rfl) ?_
                                                                  refine jl_y rfl (by decide) rfl (y_move rfl) ?_
                                                                  refine jl_skip rfl (by decide) rfl ?_
                                                                  refine jl_skip rfl (by decide) rfl ?_
                                                                  refine jl_skip rfl (by decide) rfl ?_
                                                                  refine jl_y rfl (by decide) rfl (y_pick_false rfl rfl) ?_
                                                                  refine jl_y rfl (by decide) rfl (y_move rfl) ?_
                                                                  refine jl_skip rfl (by decide) rfl ?_
                                                                  refine jl_skip rfl (by decide) rfl ?_
                                                                  refine jl_skip rfl (by decide) rfl ?_
                                                                  refine jl_skip rfl (by decide) rfl ?_
                                                                  refine jl_y rfl (by decide) rfl (y_pick_false rfl rfl) ?_
                                                                  refine jl_y rfl (by decide) rfl (y_move rfl) ?_
                                                                  refine jl_skip rfl (by decide) rfl ?_
                                                                  refine jl_skip rfl (by decide) rfl ?_
                                                                  refine jl_y rfl (by decide) rfl (y_pick_false rfl rfl) ?_
                                                                  refine jl_y rfl (by decide) rfl (y_assign rfl) ?_
                                                                  refine jl_nil ?_
                                                                  refine jq_then ?_
                                                                  refine jc_ret ?_
                                                                  refine jq_ret1 rfl rfl ?_
                                                                  exact fun _ hw => ⟨rfl, (hallo.next hw (by intro k hk; simp only [List.mem_cons, List.not_mem_nil, or_false] at hk; first | (rcases hk with rfl | rfl | rfl <;> first | exact ⟨_, mem0, rfl⟩ | exact ⟨_, mem1, rfl⟩ | exact ⟨_, mem2, rfl⟩) | (rcases hk with rfl | rfl <;> first | exact ⟨_, mem0, rfl⟩ | exact ⟨_, mem1, rfl⟩ | exact ⟨_, mem2, rfl⟩) | (subst hk; first | exact ⟨_, mem0, rfl⟩ | exact ⟨_, mem1, rfl⟩ | exact ⟨_, mem2, rfl⟩))).ch⟩
                                                                  )
                                                              )
                                                          · first
                                                            | (exfalso; omega)
                                                            | (
                                                              refine jl_y rfl (by decide) rfl (y_pick_true rfl rfl) ?_
                                                              refine jl_y rfl (by decide) rfl (y_move rfl) ?_
                                                              refine jl_skip rfl (by decide) rfl ?_
                                                              refine jl_skip rfl (by decide) rfl ?_
                                                              refine jl_skip rfl (by decide) rfl ?_
                                                              refine jl_skip rfl (by decide) rfl ?_
                                                              refine jl_skip rfl (by decide) rfl ?_
                                                              refine jl_skip rfl (by decide) rfl ?_
                                                              refine jl_y rfl (by decide) rfl (y_pick_false rfl rfl) ?_
                                                              refine jl_y rfl (by decide) rfl (y_move rfl) ?_
                                                              refine jl_skip rfl (by decide) rfl ?_
                                                              refine jl_skip rfl (by decide) rfl ?_
                                                              refine jl_skip rfl (by decide) rfl ?_
                                                              refine jl_skip rfl (by decide) rfl ?_
                                                              refine jl_skip rfl (by decide) rfl ?_
                                                              refine jl_skip rfl (by decide) rfl ?_
                                                              refine jl_y rfl (by decide) rfl (y_pick_false rfl rfl) ?_
                                                              refine jl_y rfl (by decide) rfl (y_move rfl) ?_
                                                              refine jl_skip rfl (by decide) rfl ?_
                                                              refine jl_skip rfl (by decide) rfl ?_
                                                              refine jl_skip rfl (by decide) rfl ?_
                                                              refine jl_y rfl (by decide) rfl (y_pick_false rfl rfl) ?_
                                                              refine jl_y rfl (by decide) rfl (y_move rfl) ?_
                                                              refine jl_skip rfl (by decide) rfl ?_
                                                              refine jl_skip rfl (by decide) rfl ?_
                                                              refine jl_skip rfl (by decide) rfl ?_
                                                              refine jl_skip rfl (by decide) rfl ?_
                                                              refine jl_y rfl (by decide) rfl (y_pick_false rfl rfl) ?_
                                                              refine jl_y rfl (by decide) rfl (y_move rfl) ?_
                                                              refine jl_skip rfl (by decide) rfl ?_
                                                              refine jl_skip rfl (by decide) rfl ?_
                                                              refine jl_y rfl (by decide) rfl (y_pick_false rfl rfl) ?_
                                                              refine jl_y rfl (by decide) rfl (y_assign rfl) ?_
                                                              refine jl_nil ?_
                                                              refine jq_then ?_
                                                              refine jc_ret ?_
                                                              refine jq_ret1 rfl rfl ?_
                                                              exact fun _ hw => ⟨rfl, (hallo.next hw (by intro k hk; simp only [List.mem_cons, List.not_mem_nil, or_false] at hk; first | (rcases hk with rfl | rfl | rfl <;> first | exact ⟨_, mem0, rfl⟩ | exact ⟨_, mem1, rfl⟩ | exact ⟨_, mem2, rfl⟩) | (rcases hk with rfl | rfl <;> first | exact ⟨_, mem0, rfl⟩ | exact ⟨_, mem1, rfl⟩ | exact ⟨_, mem2, rfl⟩) | (subst hk; first | exact ⟨_, mem0, rfl⟩ | exact ⟨_, mem1, rfl⟩ | exact ⟨_, mem2, rfl⟩))).ch⟩
                                                              )
                                                          )
                                                      · first
                                                        | (exfalso; omega)
                                                        | (
                                                          refine jl_y rfl (by decide) rfl (y_pick_true rfl rfl) ?_
                                                          refine jl_y rfl (by decide) rfl (y_move rfl) ?_
                                                          refine jl_skip rfl (by decide) rfl ?_
                                                          refine jl_skip rfl (by decide) rfl ?_
                                                          refine jl_y rfl (by decide) rfl (y_pick_false rfl rfl) ?_
                                                          refine jl_y rfl (by decide) rfl (y_move rfl) ?_
                                                          refine jl_skip rfl (by decide) rfl ?_
                                                          refine jl_skip rfl (by decide) rfl ?_
                                                          refine jl_skip rfl (by decide) rfl ?_
                                                          refine jl_skip rfl (by decide) rfl ?_
                                                          refine jl_skip rfl (by decide) rfl ?_
                                                          refine jl_skip rfl (by decide) rfl ?_
                                                          refine jl_y rfl (by decide) rfl (y_pick_false rfl rfl) ?_
                                                          refine jl_y rfl (by decide) rfl (y_move rfl) ?_
                                                          refine jl_skip rfl (by decide) rfl ?_
                                                          refine jl_skip rfl (by decide) rfl ?_
                                                          refine jl_skip rfl (by decide) rfl ?_
                                                          refine jl_skip rfl (by decide) rfl ?_
                                                          refine jl_skip rfl (by decide) rfl ?_
                                                          refine jl_skip rfl (by decide) rfl ?_
                                                          refine jl_y rfl (by decide) rfl (y_pick_false rfl rfl) ?_
                                                          refine jl_y rfl (by decide) rfl (y_move rfl) ?_
                                                          refine jl_skip rfl (by decide) rfl ?_
                                                          refine jl_skip rfl (by decide) rfl ?_
                                                          refine jl_skip rfl (by decide) rfl ?_
                                                          refine jl_y rfl (by decide) rfl (y_pick_false rfl rfl) ?_
                                                          refine jl_y rfl (by decide) rfl (y_move rfl) ?_
                                                          refine jl_skip rfl (by decide) rfl ?_
                                                          refine jl_skip rfl (by decide) rfl ?_
                                                          refine jl_skip rfl (by decide) rfl ?_
                                                          refine jl_skip rfl (by decide) rfl ?_
                                                          refine jl_y rfl (by decide) rfl (y_pick_false rfl rfl) ?_
                                                          refine jl_y rfl (by decide) rfl (y_move rfl) ?_
                                                          refine jl_skip rfl (by decide) rfl ?_
                                                          refine jl_skip rfl (by decide) rfl ?_
                                                          refine jl_y rfl (by decide) rfl (y_pick_false rfl rfl) ?_
                                                          refine jl_y rfl (by decide) rfl (y_assign rfl) ?_
                                                          refine jl_nil ?_
                                                          refine jq_then ?_
                                                          refine jc_ret ?_
                                                          refine jq_ret1 rfl rfl ?_
                                                          exact fun _ hw => ⟨rfl, (hallo.next hw (by intro k hk; simp only [List.mem_cons, List.not_mem_nil, or_false] at hk; first | (rcases hk with rfl | rfl | rfl <;> first | exact ⟨_, mem0, rfl⟩ | exact ⟨_, mem1, rfl⟩ | exact ⟨_, mem2, rfl⟩) | (rcases hk with rfl | rfl <;> first | exact ⟨_, mem0, rfl⟩ | exact ⟨_, mem1, rfl⟩ | exact ⟨_, mem2, rfl⟩) | (subst hk; first | exact ⟨_, mem0, rfl⟩ | exact ⟨_, mem1, rfl⟩ | exact ⟨_, mem2, rfl⟩))).ch⟩
                                                          )
                                                      )
                                                  · first
                                                    | (exfalso; omega)
                                                    | (
                                                      refine jl_y rfl (by decide) rfl (y_pick_true rfl rfl) ?_
                                                      refine jl_y rfl (by decide) rfl (y_move rfl) ?_
                                                      refine jl_skip rfl (by decide) rfl ?_
                                                      refine jl_skip rfl (by decide) rfl ?_
                                                      refine jl_y rfl (by decide) rfl (y_pick_false rfl rfl) ?_
                                                      refine jl_y rfl (by decide) rfl (y_move rfl) ?_
                                                      refine jl_skip rfl (by decide) rfl ?_
                                                      refine jl_skip rfl (by decide) rfl ?_
                                                      refine jl_y rfl (by decide) rfl (y_pick_false rfl rfl) ?_
                                                      refine jl_y rfl (by decide) rfl (y_move rfl) ?_
                                                      refine jl_skip rfl (by decide) rfl ?_
                                                      refine jl_skip rfl (by decide) rfl ?_
                                                      refine jl_skip rfl (by decide) rfl ?_
                                                      refine jl_skip rfl (by decide) rfl ?_
                                                      refine jl_skip rfl (by decide) rfl ?_
                                                      refine jl_skip rfl (by decide) rfl ?_
                                                      refine jl_y rfl (by decide) rfl (y_pick_false rfl rfl) ?_
                                                      refine jl_y rfl (by decide) rfl (y_move rfl) ?_
                                                      refine jl_skip rfl (by decide) rfl ?_
                                                      refine jl_skip rfl (by decide) rfl ?_
                                                      refine jl_skip rfl (by decide) rfl ?_
                                                      refine jl_skip rfl (by decide) rfl ?_
                                                      refine jl_skip rfl (by decide) rfl ?_
                                                      refine jl_skip rfl (by decide) rfl ?_
                                                      refine jl_y rfl (by decide) rfl (y_pick_false rfl rfl) ?_
                                                      refine jl_y rfl (by decide) rfl (y_move rfl) ?_
                                                      refine jl_skip rfl (by decide) rfl ?_
                                                      refine jl_skip rfl (by decide) rfl ?_
                                                      refine jl_skip rfl (by decide) rfl ?_
                                                      refine jl_y rfl (by decide) rfl (y_pick_false rfl rfl) ?_
                                                      refine jl_y rfl (by decide) rfl (y_move rfl) ?_
                                                      refine jl_skip rfl (by decide) rfl ?_
                                                      refine jl_skip rfl (by decide) rfl ?_
                                                      refine jl_skip rfl (by decide) rfl ?_
                                                      refine jl_skip rfl (by decide) rfl ?_
                                                      refine jl_y rfl (by decide) rfl (y_pick_false rfl rfl) ?_
                                                      refine jl_y rfl (by decide) rfl (y_move rfl) ?_
                                                      refine jl_skip rfl (by decide) rfl ?_
                                                      refine jl_skip rfl (by decide) rfl ?_
                                                      refine jl_y rfl (by decide) rfl (y_pick_false rfl rfl) ?_
                                                      refine jl_y rfl (by decide) rfl (y_assign rfl) ?_
                                                      refine jl_nil ?_
                                                      refine jq_then ?_
                                                      refine jc_ret ?_
                                                      refine jq_ret1 rfl rfl ?_
                                                      exact fun _ hw => ⟨rfl, (hallo.next hw (by intro k hk; simp only [List.mem_cons, List.not_mem_nil, or_false] at hk; first | (rcases hk with rfl | rfl | rfl <;> first | exact ⟨_, mem0, rfl⟩ | exact ⟨_, mem1, rfl⟩ | exact ⟨_, mem2, rfl⟩) | (rcases hk with rfl | rfl <;> first | exact ⟨_, mem0, rfl⟩ | exact ⟨_, mem1, rfl⟩ | exact ⟨_, mem2, rfl⟩) | (subst hk; first | exact ⟨_, mem0, rfl⟩ | exact ⟨_, mem1, rfl⟩ | exact ⟨_, mem2, rfl⟩))).ch⟩
                                                      )
                                                  )
                                              · first
                                                | (exfalso; omega)
                                                | (
                                                  refine jl_y rfl (by decide) rfl (y_pick_true rfl rfl) ?_
                                                  refine jl_y rfl (by decide) rfl (y_move rfl) ?_
                                                  refine jl_skip rfl (by decide) rfl ?_
                                                  refine jl_skip rfl (by decide) rfl ?_
                                                  refine jl_y rfl (by decide) rfl (y_pick_false rfl rfl) ?_
                                                  refine jl_y rfl (by decide) rfl (y_move rfl) ?_
                                                  refine jl_skip rfl (by decide) rfl ?_
                                                  refine jl_skip rfl (by decide) rfl ?_
                                                  refine jl_y rfl (by decide) rfl (y_pick_false rfl rfl) ?_
                                                  refine jl_y rfl (by decide) rfl (y_move rfl) ?_
                                                  refine jl_skip rfl (by decide) rfl ?_
                                                  refine jl_skip rfl (by decide) rfl ?_
                                                  refine jl_y rfl (by decide) rfl (y_pick_false rfl rfl) ?_
                                                  refine jl_y rfl (by decide) rfl (y_move rfl) ?_
                                                  refine jl_skip rfl (by decide) rfl ?_
                                                  refine jl_skip rfl (by decide) rfl ?_
                                                  refine jl_skip rfl (by decide) rfl ?_
                                                  refine jl_skip rfl (by decide) rfl ?_
                                                  refine jl_skip rfl (by decide) rfl ?_
                                                  refine jl_skip rfl (by decide) rfl ?_
                                                  refine jl_y rfl (by decide) rfl (y_pick_false rfl rfl) ?_
                                                  refine jl_y rfl (by decide) rfl (y_move rfl) ?_
                                                  refine jl_skip rfl (by decide) rfl ?_
                                                  refine jl_skip rfl (by decide) rfl ?_
                                                  refine jl_skip rfl (by decide) rfl ?_
                                                  refine jl_skip rfl (by decide) rfl ?_
                                                  refine jl_skip rfl (by decide) rfl ?_
                                                  refine jl_skip rfl (by decide) rfl ?_
                                                  refine jl_y rfl (by decide) rfl (y_pick_false rfl rfl) ?_
                                                  refine jl_y rfl (by decide) rfl (y_move rfl) ?_
                                                  refine jl_skip rfl (by decide) rfl ?_
                                                  refine jl_skip rfl (by decide) rfl ?_
                                                  refine jl_skip rfl (by decide) rfl ?_
                                                  refine jl_y rfl (by decide) rfl (y_pick_false rfl rfl) ?_
                                                  refine jl_y rfl (by decide) rfl (y_move rfl) ?_
                                                  refine jl_skip rfl (by decide) rfl ?_
                                                  refine jl_skip rfl (by decide) rfl ?_
                                                  refine jl_skip rfl (by decide) rfl ?_
                                                  refine jl_skip rfl (by decide) rfl ?_
                                                  refine jl_y rfl (by decide) rfl (y_pick_false rfl rfl) ?_
                                                  refine jl_y rfl (by decide) rfl (y_move rfl) ?_
                                                  refine jl_skip rfl (by decide) rfl ?_
                                                  refine jl_skip rfl (by decide) rfl ?_
                                                  refine jl_y rfl (by decide) rfl (y_pick_false rfl rfl) ?_
                                                  refine jl_y rfl (by decide) rfl (y_assign rfl) ?_
                                                  refine jl_nil ?_
                                                  refine jq_then ?_
                                                  refine jc_ret ?_
                                                  refine jq_ret1 rfl rfl ?_
                                                  exact fun _ hw => ⟨rfl, (hallo.next hw (by intro k hk; simp only [List.mem_cons, List.not_mem_nil, or_false] at hk; first | (rcases hk with rfl | rfl | rfl <;> first | exact ⟨_, mem0, rfl⟩ | exact ⟨_, mem1, rfl⟩ | exact ⟨_, mem2, rfl⟩) | (rcases hk with rfl | rfl <;> first | exact ⟨_, mem0, rfl⟩ | exact ⟨_, mem1, rfl⟩ | exact ⟨_, mem2, rfl⟩) | (subst hk; first | exact ⟨_, mem0, rfl⟩ | exact ⟨_, mem1, rfl⟩ | exact ⟨_, mem2, rfl⟩))).ch⟩
                                                  )
                                              )
                                          · first
                                            | (exfalso; omega)
                                            | (
                                              refine jl_y rfl (by decide) rfl (y_pick_true rfl rfl) ?_
                                              refine jl_y rfl (by decide) rfl (y_move rfl) ?_
                                              refine jl_skip rfl (by decide) rfl ?_
                                              refine jl_skip rfl (by decide) rfl ?_
                                              refine jl_y rfl (by decide) rfl (y_pick_false rfl rfl) ?_
                                              refine jl_y rfl (by decide) rfl (y_move rfl) ?_
                                              refine jl_skip rfl (by decide) rfl ?_
                                              refine jl_skip rfl (by decide) rfl ?_
                                              refine jl_y rfl (by decide) rfl (y_pick_false rfl rfl) ?_
                                              refine jl_y rfl (by decide) rfl (y_move rfl) ?_
                                              refine jl_skip rfl (by decide) rfl ?_
                                              refine jl_skip rfl (by decide) rfl ?_
                                              refine jl_y rfl (by decide) rfl (y_pick_false rfl rfl) ?_
                                              refine jl_y rfl (by decide) rfl (y_move rfl) ?_
                                              refine jl_skip rfl (by decide) rfl ?_
                                              refine jl_skip rfl (by decide) rfl ?_
                                              refine jl_y rfl (by decide) rfl (y_pick_false rfl rfl) ?_
                                              refine jl_y rfl (by decide) rfl (y_move rfl) ?_
                                              refine jl_skip rfl (by decide) rfl ?_
                                              refine jl_skip rfl (by decide) rfl ?_
                                              refine jl_skip rfl (by decide) rfl ?_
                                              refine jl_skip rfl (by decide) rfl ?_
                                              refine jl_skip rfl (by decide) rfl ?_
                                              refine jl_skip rfl (by decide) rfl ?_
                                              refine jl_y rfl (by decide) rfl (y_pick_false rfl rfl) ?_
                                              refine jl_y rfl (by decide) rfl (y_move rfl) ?_
                                              refine jl_skip rfl (by decide) rfl ?_
                                              refine jl_skip rfl (by decide) rfl ?_
                                              refine jl_skip rfl (by decide) rfl ?_
                                              refine jl_skip rfl (by decide) rfl ?_
                                              refine jl_skip rfl (by decide) rfl ?_
                                              refine jl_skip rfl (by decide) rfl ?_
                                              refine jl_y rfl (by decide) rfl (y_pick_false rfl rfl) ?_
                                              refine jl_y rfl (by decide) rfl (y_move rfl) ?_
                                              refine jl_skip rfl (by decide) rfl ?_
                                              refine jl_skip rfl (by decide) rfl ?_
                                              refine jl_skip rfl (by decide) rfl ?_
                                              refine jl_y rfl (by decide) rfl (y_pick_false rfl rfl) ?_
                                              refine jl_y rfl (by decide) rfl (y_move rfl) ?_
                                              refine jl_skip rfl (by decide) rfl ?_
                                              refine jl_skip rfl (by decide) rfl ?_
                                              refine jl_skip rfl (by decide) rfl ?_
                                              refine jl_skip rfl (by decide) rfl ?_
                                              refine jl_y rfl (by decide) rfl (y_pick_false rfl rfl) ?_
                                              refine jl_y rfl (by decide) rfl (y_move rfl) ?_
                                              refine jl_skip rfl (by decide) rfl ?_
                                              refine jl_skip rfl (by decide) rfl ?_
                                              refine jl_y rfl (by decide) rfl (y_pick_false rfl rfl) ?_
                                              refine jl_y rfl (by decide) rfl (y_assign rfl) ?_
                                              refine jl_nil ?_
                                              refine jq_then ?_
                                              refine jc_ret ?_
                                              refine jq_ret1 rfl rfl ?_
                                              exact fun _ hw => ⟨rfl, (hallo.next hw (by intro k hk; simp only [List.mem_cons, List.not_mem_nil, or_false] at hk; first | (rcases hk with rfl | rfl | rfl <;> first | exact ⟨_, mem0, rfl⟩ | exact ⟨_, mem1, rfl⟩ | exact ⟨_, mem2, rfl⟩) | (rcases hk with rfl | rfl <;> first | exact ⟨_, mem0, rfl⟩ | exact ⟨_, mem1, rfl⟩ | exact ⟨_, mem2, rfl⟩) | (subst hk; first | exact ⟨_, mem0, rfl⟩ | exact ⟨_, mem1, rfl⟩ | exact ⟨_, mem2, rfl⟩))).ch⟩
                                              )
                                          )
                                      · first
                                        | (exfalso; omega)
                                        | (
                                          refine jl_y rfl (by decide) rfl (y_pick_true rfl rfl) ?_
                                          refine jl_y rfl (by decide) rfl (y_move rfl) ?_
                                          refine jl_skip rfl (by decide) rfl ?_
                                          refine jl_skip rfl (by decide) rfl ?_
                                          refine jl_y rfl (by decide) rfl (y_pick_false rfl rfl) ?_
                                          refine jl_y rfl (by decide) rfl (y_move rfl) ?_
                                          refine jl_skip rfl (by decide) rfl ?_
                                          refine jl_skip rfl (by decide) rfl ?_
                                          refine jl_y rfl (by decide) rfl (y_pick_false rfl rfl) ?_
                                          refine jl_y rfl (by decide) rfl (y_move rfl) ?_
                                          refine jl_skip rfl (by decide) rfl ?_
                                          refine jl_skip rfl (by decide) rfl ?_
                                          refine jl_y rfl (by decide) rfl (y_pick_false rfl rfl) ?_
                                          refine jl_y rfl (by decide) rfl (y_move rfl) ?_
                                          refine jl_skip rfl (by decide) rfl ?_
                                          refine jl_skip rfl (by decide) rfl ?_
                                          refine jl_y rfl (by decide) rfl (y_pick_false rfl rfl) ?_
                                          refine jl_y rfl (by decide) rfl (y_move rfl) ?_
                                          refine jl_skip rfl (by decide) rfl ?_
                                          refine jl_skip rfl (by decide) rfl ?_
                                          refine jl_y rfl (by decide) rfl (y_pick_false rfl rfl) ?_
                                          refine jl_y rfl (by decide) rfl (y_move rfl) ?_
                                          refine jl_skip rfl (by decide) rfl ?_
                                          refine jl_skip rfl (by decide) rfl ?_
                                          refine jl_skip rfl (by decide) rfl ?_
                                          refine jl_skip rfl (by decide) rfl ?_
                                          refine jl_skip rfl (by decide) rfl ?_
                                          refine jl_skip rfl (by decide) rfl ?_
                                          refine jl_y rfl (by decide) rfl (y_pick_false rfl rfl) ?_
                                          refine jl_y rfl (by decide) rfl (y_move rfl) ?_
                                          refine jl_skip rfl (by decide) rfl ?_
                                          refine jl_skip rfl (by decide) rfl ?_
                                          refine jl_skip rfl (by decide) rfl ?_
                                          refine jl_skip rfl (by decide) rfl ?_
                                          refine jl_skip rfl (by decide) rfl ?_
                                          refine jl_skip rfl (by decide) rfl ?_
                                          refine jl_y rfl (by decide) rfl (y_pick_false rfl rfl) ?_
                                          refine jl_y rfl (by decide) rfl (y_move rfl) ?_
                                          refine jl_skip rfl (by decide) rfl ?_
                                          refine jl_skip rfl (by decide) rfl ?_
                                          refine jl_skip rfl (by decide) rfl ?_
                                          refine jl_y rfl (by decide) rfl (y_pick_false rfl rfl) ?_
                                          refine jl_y rfl (by decide) rfl (y_move rfl) ?_
                                          refine jl_skip rfl (by decide) rfl ?_
                                          refine jl_skip rfl (by decide) rfl ?_
                                          refine jl_skip rfl (by decide) rfl ?_
                                          refine jl_skip rfl (by decide) rfl ?_
                                          refine jl_y rfl (by decide) rfl (y_pick_false rfl rfl) ?_
                                          refine jl_y rfl (by decide) rfl (y_move rfl) ?_
                                          refine jl_skip rfl (by decide) rfl ?_
                                          refine jl_skip rfl (by decide) rfl ?_
                                          refine jl_y rfl (by decide) rfl (y_pick_false rfl rfl) ?_
                                          refine jl_y rfl (by decide) rfl (y_assign rfl) ?_
                                          refine jl_nil ?_
                                          refine jq_then ?_
                                          refine jc_ret ?_
                                          refine jq_ret1 rfl rfl ?_
                                          exact fun _ hw => ⟨rfl, (hallo.next hw (by intro k hk; simp only [List.mem_cons, List.not_mem_nil, or_false] at hk; first | (rcases hk with rfl | rfl | rfl <;> first | exact ⟨_, mem0, rfl⟩ | exact ⟨_, mem1, rfl⟩ | exact ⟨_, mem2, rfl⟩) | (rcases hk with rfl | rfl <;> first | exact ⟨_, mem0, rfl⟩ | exact ⟨_, mem1, rfl⟩ | exact ⟨_, mem2, rfl⟩) | (subst hk; first | exact ⟨_, mem0, rfl⟩ | exact ⟨_, mem1, rfl⟩ | exact ⟨_, mem2, rfl⟩))).ch⟩
                                          )
                                      )
                                  · first
                                    | (exfalso; omega)
                                    | (
                                      refine jl_y rfl (by decide) rfl (y_pick_true rfl rfl) ?_
                                      refine jl_y rfl (by decide) rfl (y_move rfl) ?_
                                      refine jl_skip rfl (by decide) rfl ?_
                                      refine jl_skip rfl (by decide) rfl ?_
                                      refine jl_y rfl (by decide) rfl (y_pick_false rfl rfl) ?_
                                      refine jl_y rfl (by decide) rfl (y_move rfl) ?_
                                      refine jl_skip rfl (by decide) rfl ?_
                                      refine jl_skip rfl (by decide) rfl ?_
                                      refine jl_y rfl (by decide) rfl (y_pick_false rfl rfl) ?_
                                      refine jl_y rfl (by decide) rfl (y_move rfl) ?_
                                      refine jl_skip rfl (by decide) rfl ?_
                                      refine jl_skip rfl (by decide) rfl ?_
                                      refine jl_y rfl (by decide) rfl (y_pick_false rfl rfl) ?_
                                      refine jl_y rfl (by decide) rfl (y_move rfl) ?_
                                      refine jl_skip rfl (by decide) rfl ?_
                                      refine jl_skip rfl (by decide) rfl ?_
                                      refine jl_y rfl (by decide) rfl (y_pick_false rfl rfl) ?_
                                      refine jl_y rfl (by decide) rfl (y_move rfl) ?_
                                      refine jl_skip rfl (by decide) rfl ?_
                                      refine jl_skip rfl (by decide) rfl ?_
                                      refine jl_y rfl (by decide) rfl (y_pick_false rfl rfl) ?_
                                      refine jl_y rfl (by decide) rfl (y_move rfl) ?_
                                      refine jl_skip rfl (by decide) rfl ?_
                                      refine jl_skip rfl (by decide) rfl ?_
                                      refine jl_y rfl (by decide) rfl (y_pick_false rfl rfl) ?_
                                      refine jl_y rfl (by decide) rfl (y_move rfl) ?_
                                      refine jl_skip rfl (by decide) rfl ?_
                                      refine jl_skip rfl (by decide) rfl ?_
                                      refine jl_skip rfl (by decide) rfl ?_
                                      refine jl_skip rfl (by decide) rfl ?_
                                      refine jl_skip rfl (by decide) rfl ?_
                                      refine jl_skip rfl (by decide) rfl ?_
                                      refine jl_y rfl (by decide) rfl (y_pick_false rfl rfl) ?_
                                      refine jl_y rfl (by decide) rfl (y_move rfl) ?_
                                      refine jl_skip rfl (by decide) rfl ?_
                                      refine jl_skip rfl (by decide) rfl ?_
                                      refine jl_skip rfl (by decide) rfl ?_
                                      refine jl_skip rfl (by decide) rfl ?_
                                      refine jl_skip rfl (by decide) rfl ?_
                                      refine jl_skip rfl (by decide) rfl ?_
                                      refine jl_y rfl (by decide) rfl (y_pick_false rfl rfl) ?_
                                      refine jl_y rfl (by decide) rfl (y_move rfl) ?_
                                      refine jl_skip rfl (by decide) rfl ?_
                                      refine jl_skip rfl (by decide) rfl ?_
                                      refine jl_skip rfl (by decide) rfl ?_
                                      refine jl_y rfl (by decide) rfl (y_pick_false rfl rfl) ?_
                                      refine jl_y rfl (by decide) rfl (y_move rfl) ?_
                                      refine jl_skip rfl (by decide) rfl ?_
                                      refine jl_skip rfl (by decide) rfl ?_
                                      refine jl_skip rfl (by decide) rfl ?_
                                      refine jl_skip rfl (by decide) rfl ?_
                                      refine jl_y rfl (by decide) rfl (y_pick_false rfl rfl) ?_
                                      refine jl_y rfl (by decide) rfl (y_move rfl) ?_
                                      refine jl_skip rfl (by decide) rfl ?_
                                      refine jl_skip rfl (by decide) rfl ?_
                                      refine jl_y rfl (by decide) rfl (y_pick_false rfl rfl) ?_
                                      refine jl_y rfl (by decide) rfl (y_assign rfl) ?_
                                      refine jl_nil ?_
                                      refine jq_then ?_
                                      refine jc_ret ?_
                                      refine jq_ret1 rfl rfl ?_
                                      exact fun _ hw => ⟨rfl, (hallo.next hw (by intro k hk; simp only [List.mem_cons, List.not_mem_nil, or_false] at hk; first | (rcases hk with rfl | rfl | rfl <;> first | exact ⟨_, mem0, rfl⟩ | exact ⟨_, mem1, rfl⟩ | exact ⟨_, mem2, rfl⟩) | (rcases hk with rfl | rfl <;> first | exact ⟨_, mem0, rfl⟩ | exact ⟨_, mem1, rfl⟩ | exact ⟨_, mem2, rfl⟩) | (subst hk; first | exact ⟨_, mem0, rfl⟩ | exact ⟨_, mem1, rfl⟩ | exact ⟨_, mem2, rfl⟩))).ch⟩
                                      )
                                  )
                              · first
                                | (exfalso; omega)
                                | (
                                  refine jl_y rfl (by decide) rfl (y_pick_true rfl rfl) ?_
                                  refine jl_y rfl (by decide) rfl (y_move rfl) ?_
                                  refine jl_skip rfl (by decide) rfl ?_
                                  refine jl_skip rfl (by decide) rfl ?_
                                  refine jl_y rfl (by decide) rfl (y_pick_false rfl rfl) ?_
                                  refine jl_y rfl (by decide) rfl (y_move rfl) ?_
                                  refine jl_skip rfl (by decide) rfl ?_
                                  refine jl_skip rfl (by decide) rfl ?_
                                  refine jl_y rfl (by decide) rfl (y_pick_false rfl rfl) ?_
                                  refine jl_y rfl (by decide) rfl (y_move rfl) ?_
                                  refine jl_skip rfl (by decide) rfl ?_
                                  refine jl_skip rfl (by decide) rfl ?_
                                  refine jl_y rfl (by decide) rfl (y_pick_false rfl rfl) ?_
                                  refine jl_y rfl (by decide) rfl (y_move rfl) ?_
                                  refine jl_skip rfl (by decide) rfl ?_
                                  refine jl_skip rfl (by decide) rfl ?_
                                  refine jl_y rfl (by decide) rfl (y_pick_false rfl rfl) ?_
                                  refine jl_y rfl (by decide) rfl (y_move rfl) ?_
                                  refine jl_skip rfl (by decide) rfl ?_
                                  refine jl_skip rfl (by decide) rfl ?_
                                  refine jl_y rfl (by decide) rfl (y_pick_false rfl rfl) ?_
                                  refine jl_y rfl (by decide) rfl (y_move rfl) ?_
                                  refine jl_skip rfl (by decide) rfl ?_
                                  refine jl_skip rfl (by decide) rfl ?_
                                  refine jl_y rfl (by decide) rfl (y_pick_false rfl rfl) ?_
                                  refine jl_y rfl (by decide) rfl (y_move rfl) ?_
                                  refine jl_skip rfl (by decide) rfl ?_
                                  refine jl_skip rfl (by decide) rfl ?_
                                  refine jl_y rfl (by decide) rfl (y_pick_false rfl rfl) ?_
                                  refine jl_y rfl (by decide) rfl (y_move rfl) ?_
                                  refine jl_skip rfl (by decide) rfl ?_
                                  refine jl_skip rfl (by decide) rfl ?_
                                  refine jl_skip rfl (by decide) rfl ?_
                                  refine jl_skip rfl (by decide) rfl ?_
                                  refine jl_skip rfl (by decide) rfl ?_
                                  refine jl_skip rfl (by decide) rfl ?_
                                  refine jl_y rfl (by decide) rfl (y_pick_false rfl rfl) ?_
                                  refine jl_y rfl (by decide) rfl (y_move rfl) ?_
                                  refine jl_skip rfl (by decide) rfl ?_
                                  refine jl_skip rfl (by decide) rfl ?_
                                  refine jl_skip rfl (by decide) rfl ?_
                                  refine jl_skip rfl (by decide) rfl ?_
                                  refine jl_skip rfl (by decide) rfl ?_
                                  refine jl_skip rfl (by decide) rfl ?_
                                  refine jl_y rfl (by decide) rfl (y_pick_false rfl rfl) ?_
                                  refine jl_y rfl (by decide) rfl (y_move rfl) ?_
                                  refine jl_skip rfl (by decide) rfl ?_
                                  refine jl_skip rfl (by decide) rfl ?_
                                  refine jl_skip rfl (by decide) rfl ?_
                                  refine jl_y rfl (by decide) rfl (y_pick_false rfl rfl) ?_
                                  refine jl_y rfl (by decide) rfl (y_move rfl) ?_
                                  refine jl_skip rfl (by decide) rfl ?_
                                  refine jl_skip rfl (by decide) rfl ?_
                                  refine jl_skip rfl (by decide) rfl ?_
                                  refine jl_skip rfl (by decide) rfl ?_
                                  refine jl_y rfl (by decide) rfl (y_pick_false rfl rfl) ?_
                                  refine jl_y rfl (by decide) rfl (y_move rfl) ?_
                                  refine jl_skip rfl (by decide) rfl ?_
                                  refine jl_skip rfl (by decide) rfl ?_
                                  refine jl_y rfl (by decide) rfl (y_pick_false rfl rfl) ?_
                                  refine jl_y rfl (by decide) rfl (y_assign rfl) ?_
                                  refine jl_nil ?_
                                  refine jq_then ?_
                                  refine jc_ret ?_
                                  refine jq_ret1 rfl rfl ?_
                                  exact fun _ hw => ⟨rfl, (hallo.next hw (by intro k hk; simp only [List.mem_cons, List.not_mem_nil, or_false] at hk; first | (rcases hk with rfl | rfl | rfl <;> first | exact ⟨_, mem0, rfl⟩ | exact ⟨_, mem1, rfl⟩ | exact ⟨_, mem2, rfl⟩) | (rcases hk with rfl | rfl <;> first | exact ⟨_, mem0, rfl⟩ | exact ⟨_, mem1, rfl⟩ | exact ⟨_, mem2, rfl⟩) | (subst hk; first | exact ⟨_, mem0, rfl⟩ | exact ⟨_, mem1, rfl⟩ | exact ⟨_, mem2, rfl⟩))).ch⟩
                                  )
                              )
                          · first
                            | (exfalso; omega)
                            | (
                              refine jl_y rfl (by decide) rfl (y_pick_true rfl rfl) ?_
                              refine jl_y rfl (by decide) rfl (y_move rfl) ?_
                              refine jl_skip rfl (by decide) rfl ?_
                              refine jl_skip rfl (by decide) rfl ?_
                              refine jl_skip rfl (by decide) rfl ?_
                              refine jl_skip rfl (by decide) rfl ?_
                              refine jl_y rfl (by decide) rfl (y_pick_false rfl rfl) ?_
                              refine jl_y rfl (by decide) rfl (y_move rfl) ?_
                              refine jl_skip rfl (by decide) rfl ?_
                              refine jl_skip rfl (by decide) rfl ?_
                              refine jl_skip rfl (by decide) rfl ?_
                              refine jl_skip rfl (by decide) rfl ?_
                              refine jl_y rfl (by decide) rfl (y_pick_false rfl rfl) ?_
                              refine jl_y rfl (by decide) rfl (y_move rfl) ?_
                              refine jl_skip rfl (by decide) rfl ?_
                              refine jl_skip rfl (by decide) rfl ?_
                              refine jl_skip rfl (by decide) rfl ?_
                              refine jl_y rfl (by decide) rfl (y_pick_false rfl rfl) ?_
                              refine jl_y rfl (by decide) rfl (y_move rfl) ?_
                              refine jl_skip rfl (by decide) rfl ?_
                              refine jl_skip rfl (by decide) rfl ?_
                              refine jl_y rfl (by decide) rfl (y_pick_false rfl rfl) ?_
                              refine jl_y rfl (by decide) rfl (y_move rfl) ?_
                              refine jl_skip rfl (by decide) rfl ?_
                              refine jl_skip rfl (by decide) rfl ?_
                              refine jl_y rfl (by decide) rfl (y_pick_false rfl rfl) ?_
                              refine jl_y rfl (by decide) rfl (y_move rfl) ?_
                              refine jl_skip rfl (by decide) rfl ?_
                              refine jl_skip rfl (by decide) rfl ?_
                              refine jl_y rfl (by decide) rfl (y_pick_false rfl rfl) ?_
                              refine jl_y rfl (by decide) rfl (y_move rfl) ?_
                              refine jl_skip rfl (by decide) rfl ?_
                              refine jl_skip rfl (by decide) rfl ?_
                              refine jl_y rfl (by decide) rfl (y_pick_false rfl rfl) ?_
                              refine jl_y rfl (by decide) rfl (y_move rfl) ?_
                              refine jl_skip rfl (by decide) rfl ?_
                              refine jl_skip rfl (by decide) rfl ?_
                              refine jl_y rfl (by decide) rfl (y_pick_false rfl rfl) ?_
                              refine jl_y rfl (by decide) rfl (y_move rfl) ?_
                              refine jl_skip rfl (by decide) rfl ?_
                              refine jl_skip rfl (by decide) rfl ?_
                              refine jl_y rfl (by decide) rfl (y_pick_false rfl rfl) ?_
                              refine jl_y rfl (by decide) rfl (y_move rfl) ?_
                              refine jl_skip rfl (by decide) rfl ?_
                              refine jl_skip rfl (by decide) rfl ?_
                              refine jl_y rfl (by decide) rfl (y_pick_false rfl rfl) ?_
                              refine jl_y rfl (by decide) rfl (y_move rfl) ?_
                              refine jl_skip rfl (by decide) rfl ?_
                              refine jl_skip rfl (by decide) rfl ?_
                              refine jl_y rfl (by decide) rfl (y_pick_false rfl rfl) ?_
                              refine jl_y rfl (by decide) rfl (y_move rfl) ?_
                              refine jl_skip rfl (by decide) rfl ?_
                              refine jl_skip rfl (by decide) rfl ?_
                              refine jl_skip rfl (by decide) rfl ?_
                              refine jl_skip rfl (by decide) rfl ?_
                              refine jl_skip rfl (by decide) rfl ?_
                              refine jl_skip rfl (by decide) rfl ?_
                              refine jl_y rfl (by decide) rfl (y_pick_false rfl rfl) ?_
                              refine jl_y rfl (by decide) rfl (y_move rfl) ?_
                              refine jl_skip rfl (by decide) rfl ?_
                              refine jl_skip rfl (by decide) rfl ?_
                              refine jl_skip rfl (by decide) rfl ?_
                              refine jl_skip rfl (by decide) rfl ?_
                              refine jl_skip rfl (by decide) rfl ?_
                              refine jl_skip rfl (by decide) rfl ?_
                              refine jl_y rfl (by decide) rfl (y_pick_false rfl rfl) ?_
                              refine jl_y rfl (by decide) rfl (y_move rfl) ?_
                              refine jl_skip rfl (by decide) rfl ?_
                              refine jl_skip rfl (by decide) rfl ?_
                              refine jl_skip rfl (by decide) rfl ?_
                              refine jl_y rfl (by decide) rfl (y_pick_false rfl rfl) ?_
                              refine jl_y rfl (by decide) rfl (y_move rfl) ?_
                              refine jl_skip rfl (by decide) rfl ?_
                              refine jl_skip rfl (by decide) rfl ?_
                              refine jl_skip rfl (by decide) rfl ?_
                              refine jl_skip rfl (by decide) rfl ?_
                              refine jl_y rfl (by decide) rfl (y_pick_false rfl rfl) ?_
                              refine jl_y rfl (by decide) rfl (y_move rfl) ?_
                              refine jl_skip rfl (by decide) rfl ?_
                              refine jl_skip rfl (by decide) rfl ?_
                              refine jl_y rfl (by decide) rfl (y_pick_false rfl rfl) ?_
                              refine jl_y rfl (by decide) rfl (y_assign rfl) ?_
                              refine jl_nil ?_
                              refine jq_then ?_
                              refine jc_ret ?_
                              refine jq_ret1 rfl rfl ?_
                              exact fun _ hw => ⟨rfl, (hallo.next hw (by intro k hk; simp only [List.mem_cons, List.not_mem_nil, or_false] at hk; first | (rcases hk with rfl | rfl | rfl <;> first | exact ⟨_, mem0, rfl⟩ | exact ⟨_, mem1, rfl⟩ | exact ⟨_, mem2, rfl⟩) | (rcases hk with rfl | rfl <;> first | exact ⟨_, mem0, rfl⟩ | exact ⟨_, mem1, rfl⟩ | exact ⟨_, mem2, rfl⟩) | (subst hk; first | exact ⟨_, mem0, rfl⟩ | exact ⟨_, mem1, rfl⟩ | exact ⟨_, mem2, rfl⟩))).ch⟩
                              )
                          )
                      · first
                        | (exfalso; omega)
                        | (
                          refine jl_y rfl (by decide) rfl (y_pick_true rfl rfl) ?_
                          refine jl_y rfl (by decide) rfl (y_move rfl) ?_
                          refine jl_skip rfl (by decide) rfl ?_
                          refine jl_skip rfl (by decide) rfl ?_
                          refine jl_skip rfl (by decide) rfl ?_
                          refine jl_y rfl (by decide) rfl (y_pick_false rfl rfl) ?_
                          refine jl_y rfl (by decide) rfl (y_move rfl) ?_
                          refine jl_skip rfl (by decide) rfl ?_
                          refine jl_skip rfl (by decide) rfl ?_
                          refine jl_skip rfl (by decide) rfl ?_
                          refine jl_skip rfl (by decide) rfl ?_
                          refine jl_y rfl (by decide) rfl (y_pick_false rfl rfl) ?_
                          refine jl_y rfl (by decide) rfl (y_move rfl) ?_
                          refine jl_skip rfl (by decide) rfl ?_
                          refine jl_skip rfl (by decide) rfl ?_
                          refine jl_skip rfl (by decide) rfl ?_
                          refine jl_skip rfl (by decide) rfl ?_
                          refine jl_y rfl (by decide) rfl (y_pick_false rfl rfl) ?_
                          refine jl_y rfl (by decide) rfl (y_move rfl) ?_
                          refine jl_skip rfl (by decide) rfl ?_
                          refine jl_skip rfl (by decide) rfl ?_
                          refine jl_skip rfl (by decide) rfl ?_
                          refine jl_y rfl (by decide) rfl (y_pick_false rfl rfl) ?_
                          refine jl_y rfl (by decide) rfl (y_move rfl) ?_
                          refine jl_skip rfl (by decide) rfl ?_
                          refine jl_skip rfl (by decide) rfl ?_
                          refine jl_y rfl (by decide) rfl (y_pick_false rfl rfl) ?_
                          refine jl_y rfl (by decide) rfl (y_move rfl) ?_
                          refine jl_skip rfl (by decide) rfl ?_
                          refine jl_skip rfl (by decide) rfl ?_
                          refine jl_y rfl (by decide) rfl (y_pick_false rfl rfl) ?_
                          refine jl_y rfl (by decide) rfl (y_move rfl) ?_
                          refine jl_skip rfl (by decide) rfl ?_
                          refine jl_skip rfl (by decide) rfl ?_
                          refine jl_y rfl (by decide) rfl (y_pick_false rfl rfl) ?_
                          refine jl_y rfl (by decide) rfl (y_move rfl) ?_
                          refine jl_skip rfl (by decide) rfl ?_
                          refine jl_skip rfl (by decide) rfl ?_
                          refine jl_y rfl (by decide) rfl (y_pick_false rfl rfl) ?_
                          refine jl_y rfl (by decide) rfl (y_move rfl) ?_
                          refine jl_skip rfl (by decide) rfl ?_
                          refine jl_skip rfl (by decide) rfl ?_
                          refine jl_y rfl (by decide) rfl (y_pick_false rfl rfl) ?_
                          refine jl_y rfl (by decide) rfl (y_move rfl) ?_
                          refine jl_skip rfl (by decide) rfl ?_
                          refine jl_skip rfl (by decide) rfl ?_
                          refine jl_y rfl (by decide) rfl (y_pick_false rfl rfl) ?_
                          refine jl_y rfl (by decide) rfl (y_move rfl) ?_
                          refine jl_skip rfl (by decide) rfl ?_
                          refine jl_skip rfl (by decide) rfl ?_
                          refine jl_y rfl (by decide) rfl (y_pick_false rfl rfl) ?_
                          refine jl_y rfl (by decide) rfl (y_move rfl) ?_
                          refine jl_skip rfl (by decide) rfl ?_
                          refine jl_skip rfl (by decide) rfl ?_
                          refine jl_y rfl (by decide) rfl (y_pick_false rfl rfl) ?_
                          refine jl_y rfl (by decide) rfl (y_move rfl) ?_
                          refine jl_skip rfl (by decide) rfl ?_
                          refine jl_skip rfl (by decide) rfl ?_
                          refine jl_skip rfl (by decide) rfl ?_
                          refine jl_skip rfl (by decide) rfl ?_
                          refine jl_skip rfl (by decide) rfl ?_
                          refine jl_skip rfl (by decide) rfl ?_
                          refine jl_y rfl (by decide) rfl (y_pick_false rfl rfl) ?_
                          refine jl_y rfl (by decide) rfl (y_move rfl) ?_
                          refine jl_skip rfl (by decide) rfl ?_
                          refine jl_skip rfl (by decide) rfl ?_
                          refine jl_skip rfl (by decide) rfl ?_
                          refine jl_skip rfl (by decide) rfl ?_
                          refine jl_skip rfl (by decide) rfl ?_
                          refine jl_skip rfl (by decide) rfl ?_
                          refine jl_y rfl (by decide) rfl (y_pick_false rfl rfl) ?_
                          refine jl_y rfl (by decide) rfl (y_move rfl) ?_
                          refine jl_skip rfl (by decide) rfl ?_
                          refine jl_skip rfl (by decide) rfl ?_
                          refine jl_skip rfl (by decide) rfl ?_
                          refine jl_y rfl (by decide) rfl (y_pick_false rfl rfl) ?_
                          refine jl_y rfl (by decide) rfl (y_move rfl) ?_
                          refine jl_skip rfl (by decide) rfl ?_
                          refine jl_skip rfl (by decide) rfl ?_
                          refine jl_skip rfl (by decide) rfl ?_
                          refine jl_skip rfl (by decide) rfl ?_
                          refine jl_y rfl (by decide) rfl (y_pick_false rfl rfl) ?_
                          refine jl_y rfl (by decide) rfl (y_move rfl) ?_
                          refine jl_skip rfl (by decide) rfl ?_
                          refine jl_skip rfl (by decide) rfl ?_
                          refine jl_y rfl (by decide) rfl (y_pick_false rfl rfl) ?_
                          refine jl_y rfl (by decide) rfl (y_assign rfl) ?_
                          refine jl_nil ?_
                          refine jq_then ?_
                          refine jc_ret ?_
                          refine jq_ret1 rfl rfl ?_
                          exact fun _ hw => ⟨rfl, (hallo.next hw (by intro k hk; simp only [List.mem_cons, List.not_mem_nil, or_false] at hk; first | (rcases hk with rfl | rfl | rfl <;> first | exact ⟨_, mem0, rfl⟩ | exact ⟨_, mem1, rfl⟩ | exact ⟨_, mem2, rfl⟩) | (rcases hk with rfl | rfl <;> first | exact ⟨_, mem0, rfl⟩ | exact ⟨_, mem1, rfl⟩ | exact ⟨_, mem2, rfl⟩) | (subst hk; first | exact ⟨_, mem0, rfl⟩ | exact ⟨_, mem1, rfl⟩ | exact ⟨_, mem2, rfl⟩))).ch⟩
                          )
                      )
                  · first
                    | (exfalso; omega)
                    | (
                      refine jl_y rfl (by decide) rfl (y_pick_true rfl rfl) ?_
                      refine jl_y rfl (by decide) rfl (y_move rfl) ?_
                      refine jl_skip rfl (by decide) rfl ?_
                      refine jl_skip rfl (by decide) rfl ?_
                      refine jl_y rfl (by decide) rfl (y_pick_false rfl rfl) ?_
                      refine jl_y rfl (by decide) rfl (y_move rfl) ?_
                      refine jl_skip rfl (by decide) rfl ?_
                      refine jl_skip rfl (by decide) rfl ?_
                      refine jl_skip rfl (by decide) rfl ?_
                      refine jl_y rfl (by decide) rfl (y_pick_false rfl rfl) ?_
                      refine jl_y rfl (by decide) rfl (y_move rfl) ?_
                      refine jl_skip rfl (by decide) rfl ?_
                      refine jl_skip rfl (by decide) rfl ?_
                      refine jl_skip rfl (by decide) rfl ?_
                      refine jl_skip rfl (by decide) rfl ?_
                      refine jl_y rfl (by decide) rfl (y_pick_false rfl rfl) ?_
                      refine jl_y rfl (by decide) rfl (y_move rfl) ?_
                      refine jl_skip rfl (by decide) rfl ?_
                      refine jl_skip rfl (by decide) rfl ?_
                      refine jl_skip rfl (by decide) rfl ?_
                      refine jl_skip rfl (by decide) rfl ?_
                      refine jl_y rfl (by decide) rfl (y_pick_false rfl rfl) ?_
                      refine jl_y rfl (by decide) rfl (y_move rfl) ?_
                      refine jl_skip rfl (by decide) rfl ?_
                      refine jl_skip rfl (by decide) rfl ?_
                      refine jl_skip rfl (by decide) rfl ?_
                      refine jl_y rfl (by decide) rfl (y_pick_false rfl rfl) ?_
                      refine jl_y rfl (by decide) rfl (y_move rfl) ?_
                      refine jl_skip rfl (by decide) rfl ?_
                      refine jl_skip rfl (by decide) rfl ?_
                      refine jl_y rfl (by decide) rfl (y_pick_false rfl rfl) ?_
                      refine jl_y rfl (by decide) rfl (y_move rfl) ?_
                      refine jl_skip rfl (by decide) rfl ?_
                      refine jl_skip rfl (by decide) rfl ?_
                      refine jl_y rfl (by decide) rfl (y_pick_false rfl rfl) ?_
                      refine jl_y rfl (by decide) rfl (y_move rfl) ?_
                      refine jl_skip rfl (by decide) rfl ?_
                      refine jl_skip rfl (by decide) rfl ?_
                      refine jl_y rfl (by decide) rfl (y_pick_false rfl rfl) ?_
                      refine jl_y rfl (by decide) rfl (y_move rfl) ?_
                      refine jl_skip rfl (by decide) rfl ?_
                      refine jl_skip rfl (by decide) rfl ?_
                      refine jl_y rfl (by decide) rfl (y_pick_false rfl rfl) ?_
                      refine jl_y rfl (by decide) rfl (y_move rfl) ?_
                      refine jl_skip rfl (by decide) rfl ?_
                      refine jl_skip rfl (by decide) rfl ?_
                      refine jl_y rfl (by decide) rfl (y_pick_false rfl rfl) ?_
                      refine jl_y rfl (by decide) rfl (y_move rfl) ?_
                      refine jl_skip rfl (by decide) rfl ?_
                      refine jl_skip rfl (by decide) rfl ?_
                      refine jl_y rfl (by decide) rfl (y_pick_false rfl rfl) ?_
                      refine jl_y rfl (by decide) rfl (y_move rfl) ?_
                      refine jl_skip rfl (by decide) rfl ?_
                      refine jl_skip rfl (by decide) rfl ?_
                      refine jl_y rfl (by decide) rfl (y_pick_false rfl rfl) ?_
                      refine jl_y rfl (by decide) rfl (y_move rfl) ?_
                      refine jl_skip rfl (by decide) rfl ?_
                      refine jl_skip rfl (by decide) rfl ?_
                      refine jl_y rfl (by decide) rfl (y_pick_false rfl rfl) ?_
                      refine jl_y rfl (by decide) rfl (y_move rfl) ?_
                      refine jl_skip rfl (by decide) rfl ?_
                      refine jl_skip rfl (by decide) rfl ?_
                      refine jl_skip rfl (by decide) rfl ?_
                      refine jl_skip rfl (by decide) rfl ?_
                      refine jl_skip rfl (by decide) rfl ?_
                      refine jl_skip rfl (by decide) rfl ?_
                      refine jl_y rfl (by decide) rfl (y_pick_false rfl rfl) ?_
                      refine jl_y rfl (by decide) rfl (y_move rfl) ?_
                      refine jl_skip rfl (by decide) rfl ?_
                      refine jl_skip rfl (by decide) rfl ?_
                      refine jl_skip rfl (by decide) rfl ?_
                      refine jl_skip rfl (by decide) rfl ?_
                      refine jl_skip rfl (by decide) rfl ?_
                      refine jl_skip rfl (by decide) rfl ?_
                      refine jl_y rfl (by decide) rfl (y_pick_false rfl rfl) ?_
                      refine jl_y rfl (by decide) rfl (y_move rfl) ?_
                      refine jl_skip rfl (by decide) rfl ?_
                      refine jl_skip rfl (by decide) rfl ?_
                      refine jl_skip rfl (by decide) rfl ?_
                      refine jl_y rfl (by decide) rfl (y_pick_false rfl rfl) ?_
                      refine jl_y rfl (by decide) rfl (y_move rfl) ?_
                      refine jl_skip rfl (by decide) rfl ?_
                      refine jl_skip rfl (by decide) rfl ?_
                      refine jl_skip rfl (by decide) rfl ?_
                      refine jl_skip rfl (by decide) rfl ?_
                      refine jl_y rfl (by decide) rfl (y_pick_false rfl rfl) ?_
                      refine jl_y rfl (by decide) rfl (y_move rfl) ?_
                      refine jl_skip rfl (by decide) rfl ?_
                      refine jl_skip rfl (by decide) rfl ?_
                      refine jl_y rfl (by decide) rfl (y_pick_false rfl rfl) ?_
                      refine jl_y rfl (by decide) rfl (y_assign rfl) ?_
                      refine jl_nil ?_
                      refine jq_then ?_
                      refine jc_ret ?_
                      refine jq_ret1 rfl rfl ?_
                      exact fun _ hw => ⟨rfl, (hallo.next hw (by intro k hk; simp only [List.mem_cons, List.not_mem_nil, or_false] at hk; first | (rcases hk with rfl | rfl | rfl <;> first | exact ⟨_, mem0, rfl⟩ | exact ⟨_, mem1, rfl⟩ | exact ⟨_, mem2, rfl⟩) | (rcases hk with rfl | rfl <;> first | exact ⟨_, mem0, rfl⟩ | exact ⟨_, mem1, rfl⟩ | exact ⟨_, mem2, rfl⟩) | (subst hk; first | exact ⟨_, mem0, rfl⟩ | exact ⟨_, mem1, rfl⟩ | exact ⟨_, mem2, rfl⟩))).ch⟩
                      )
                  )
              · first
                | (exfalso; omega)
                | (
                  refine jl_y rfl (by decide) rfl (y_pick_true rfl rfl) ?_
                  refine jl_y rfl (by decide) rfl (y_move rfl) ?_
                  refine jl_skip rfl (by decide) rfl ?_
                  refine jl_skip rfl (by decide) rfl ?_
                  refine jl_y rfl (by decide) rfl (y_pick_false rfl rfl) ?_
                  refine jl_y rfl (by decide) rfl (y_move rfl) ?_
                  refine jl_skip rfl (by decide) rfl ?_
                  refine jl_skip rfl (by decide) rfl ?_
                  refine jl_y rfl (by decide) rfl (y_pick_false rfl rfl) ?_
                  refine jl_y rfl (by decide) rfl (y_move rfl) ?_
                  refine jl_skip rfl (by decide) rfl ?_
                  refine jl_skip rfl (by decide) rfl ?_
                  refine jl_skip rfl (by decide) rfl ?_
                  refine jl_y rfl (by decide) rfl (y_pick_false rfl rfl) ?_
                  refine jl_y rfl (by decide) rfl (y_move rfl) ?_
                  refine jl_skip rfl (by decide) rfl ?_
                  refine jl_skip rfl (by decide) rfl ?_
                  refine jl_skip rfl (by decide) rfl ?_
                  refine jl_skip rfl (by decide) rfl ?_
                  refine jl_y rfl (by decide) rfl (y_pick_false rfl rfl) ?_
                  refine jl_y rfl (by decide) rfl (y_move rfl) ?_
                  refine jl_skip rfl (by decide) rfl ?_
                  refine jl_skip rfl (by decide) rfl ?_
                  refine jl_skip rfl (by decide) rfl ?_
                  refine jl_skip rfl (by decide) rfl ?_
                  refine jl_y rfl (by decide) rfl (y_pick_false rfl rfl) ?_
                  refine jl_y rfl (by decide) rfl (y_move rfl) ?_
                  refine jl_skip rfl (by decide) rfl ?_
                  refine jl_skip rfl (by decide) rfl ?_
                  refine jl_skip rfl (by decide) rfl ?_
                  refine jl_y rfl (by decide) rfl (y_pick_false rfl rfl) ?_
                  refine jl_y rfl (by decide) rfl (y_move rfl) ?_
                  refine jl_skip rfl (by decide) rfl ?_
                  refine jl_skip rfl (by decide) rfl ?_
                  refine jl_y rfl (by decide) rfl (y_pick_false rfl rfl) ?_
                  refine jl_y rfl (by decide) rfl (y_move rfl) ?_
                  refine jl_skip rfl (by decide) rfl ?_
                  refine jl_skip rfl (by decide) rfl ?_
                  refine jl_y rfl (by decide) rfl (y_pick_false rfl rfl) ?_
                  refine jl_y rfl (by decide) rfl (y_move rfl) ?_
                  refine jl_skip rfl (by decide) rfl ?_
                  refine jl_skip rfl (by decide) rfl ?_
                  refine jl_y rfl (by decide) rfl (y_pick_false rfl rfl) ?_
                  refine jl_y rfl (by decide) rfl (y_move rfl) ?_
                  refine jl_skip rfl (by decide) rfl ?_
                  refine jl_skip rfl (by decide) rfl ?_
                  refine jl_y rfl (by decide) rfl (y_pick_false rfl rfl) ?_
                  refine jl_y rfl (by decide) rfl (y_move rfl) ?_
                  refine jl_skip rfl (by decide) rfl ?_
                  refine jl_skip rfl (by decide) rfl ?_
                  refine jl_y rfl (by decide) rfl (y_pick_false rfl rfl) ?_
                  refine jl_y rfl (by decide) rfl (y_move rfl) ?_
                  refine jl_skip rfl (by decide) rfl ?_
                  refine jl_skip rfl (by decide) rfl ?_
                  refine jl_y rfl (by decide) rfl (y_pick_false rfl rfl) ?_
                  refine jl_y rfl (by decide) rfl (y_move rfl) ?_
                  refine jl_skip rfl (by decide) rfl ?_
                  refine jl_skip rfl (by decide) rfl ?_
                  refine jl_y rfl (by decide) rfl (y_pick_false rfl rfl) ?_
                  refine jl_y rfl (by decide) rfl (y_move rfl) ?_
                  refine jl_skip rfl (by decide) rfl ?_
                  refine jl_skip rfl (by decide) rfl ?_
                  refine jl_y rfl (by decide) rfl (y_pick_false rfl rfl) ?_
                  refine jl_y rfl (by decide) rfl (y_move rfl) ?_
                  refine jl_skip rfl (by decide) rfl ?_
                  refine jl_skip rfl (by decide) rfl ?_
                  refine jl_skip rfl (by decide) rfl ?_
                  refine jl_skip rfl (by decide) rfl ?_
                  refine jl_skip rfl (by decide) rfl ?_
                  refine jl_skip rfl (by decide) rfl ?_
                  refine jl_y rfl (by decide) rfl (y_pick_false rfl rfl) ?_
                  refine jl_y rfl (by decide) rfl (y_move rfl) ?_
                  refine jl_skip rfl (by decide) rfl ?_
                  refine jl_skip rfl (by decide) rfl ?_
                  refine jl_skip rfl (by decide) rfl ?_
                  refine jl_skip rfl (by decide) rfl ?_
                  refine jl_skip rfl (by decide) rfl ?_
                  refine jl_skip rfl (by decide) rfl ?_
                  refine jl_y rfl (by decide) rfl (y_pick_false rfl rfl) ?_
                  refine jl_y rfl (by decide) rfl (y_move rfl) ?_
                  refine jl_skip rfl (by decide) rfl ?_
                  refine jl_skip rfl (by decide) rfl ?_
                  refine jl_skip rfl (by decide) rfl ?_
                  refine jl_y rfl (by decide) rfl (y_pick_false rfl rfl) ?_
                  refine jl_y rfl (by decide) rfl (y_move rfl) ?_
                  refine jl_skip rfl (by decide) rfl ?_
                  refine jl_skip rfl (by decide) rfl ?_
                  refine jl_skip rfl (by decide) rfl ?_
                  refine jl_skip rfl (by decide) rfl ?_
                  refine jl_y rfl (by decide) rfl (y_pick_false rfl rfl) ?_
                  refine jl_y rfl (by decide) rfl (y_move rfl) ?_
                  refine jl_skip rfl (by decide) rfl ?_
                  refine jl_skip rfl (by decide) rfl ?_
                  refine jl_y rfl (by decide) rfl (y_pick_false rfl rfl) ?_
                  refine jl_y rfl (by decide) rfl (y_assign rfl) ?_
                  refine jl_nil ?_
                  refine jq_then ?_
                  refine jc_ret ?_
                  refine jq_ret1 rfl rfl ?_
                  exact fun _ hw => ⟨rfl, (hallo.next hw (by intro k hk; simp only [List.mem_cons, List.not_mem_nil, or_false] at hk; first | (rcases hk with rfl | rfl | rfl <;> first | exact ⟨_, mem0, rfl⟩ | exact ⟨_, mem1, rfl⟩ | exact ⟨_, mem2, rfl⟩) | (rcases hk with rfl | rfl <;> first | exact ⟨_, mem0, rfl⟩ | exact ⟨_, mem1, rfl⟩ | exact ⟨_, mem2, rfl⟩) | (subst hk; first | exact ⟨_, mem0, rfl⟩ | exact ⟨_, mem1, rfl⟩ | exact ⟨_, mem2, rfl⟩))).ch⟩
                  )
              )
          · first
            | (exfalso; omega)
            | (
              refine jl_y rfl (by decide) rfl (y_pick_true rfl rfl) ?_
              refine jl_y rfl (by decide) rfl (y_move rfl) ?_
              refine jl_skip rfl (by decide) rfl ?_
              refine jl_skip rfl (by decide) rfl ?_
              refine jl_y rfl (by decide) rfl (y_pick_false rfl rfl) ?_
              refine jl_y rfl (by decide) rfl (y_move rfl) ?_
              refine jl_skip rfl (by decide) rfl ?_
              refine jl_skip rfl (by decide) rfl ?_
              refine jl_y rfl (by decide) rfl (y_pick_false rfl rfl) ?_
              refine jl_y rfl (by decide) rfl (y_move rfl) ?_
              refine jl_skip rfl (by decide) rfl ?_
              refine jl_skip rfl (by decide) rfl ?_
              refine jl_y rfl (by decide) rfl (y_pick_false rfl rfl) ?_
              refine jl_y rfl (by decide) rfl (y_move rfl) ?_
              refine jl_skip rfl (by decide) rfl ?_
              refine jl_skip rfl (by decide) rfl ?_
              refine jl_skip rfl (by decide) rfl ?_
              refine jl_y rfl (by decide) rfl (y_pick_false rfl rfl) ?_
              refine jl_y rfl (by decide) rfl (y_move rfl) ?_
              refine jl_skip rfl (by decide) rfl ?_
              refine jl_skip rfl (by decide) rfl ?_
              refine jl_skip rfl (by decide) rfl ?_
              refine jl_skip rfl (by decide) rfl ?_
              refine jl_y rfl (by decide) rfl (y_pick_false rfl rfl) ?_
              refine jl_y rfl (by decide) rfl (y_move rfl) ?_
              refine jl_skip rfl (by decide) rfl ?_
              refine jl_skip rfl (by decide) rfl ?_
              refine jl_skip rfl (by decide) rfl ?_
              refine jl_skip rfl (by decide) rfl ?_
              refine jl_y rfl (by decide) rfl (y_pick_false rfl rfl) ?_
              refine jl_y rfl (by decide) rfl (y_move rfl) ?_
              refine jl_skip rfl (by decide) rfl ?_
              refine jl_skip rfl (by decide) rfl ?_
              refine jl_skip rfl (by decide) rfl ?_
              refine jl_y rfl (by decide) rfl (y_pick_false rfl rfl) ?_
              refine jl_y rfl (by decide) rfl (y_move rfl) ?_
              refine jl_skip rfl (by decide) rfl ?_
              refine jl_skip rfl (by decide) rfl ?_
              refine jl_y rfl (by decide) rfl (y_pick_false rfl rfl) ?_
              refine jl_y rfl (by decide) rfl (y_move rfl) ?_
              refine jl_skip rfl (by decide) rfl ?_
              refine jl_skip rfl (by decide) rfl ?_
              refine jl_y rfl (by decide) rfl (y_pick_false rfl rfl) ?_
              refine jl_y rfl (by decide) rfl (y_move rfl) ?_
              refine jl_skip rfl (by decide) rfl ?_
              refine jl_skip rfl (by decide) rfl ?_
              refine jl_y rfl (by decide) rfl (y_pick_false rfl rfl) ?_
              refine jl_y rfl (by decide) rfl (y_move rfl) ?_
              refine jl_skip rfl (by decide) rfl ?_
              refine jl_skip rfl (by decide) rfl ?_
              refine jl_y rfl (by decide) rfl (y_pick_false rfl rfl) ?_
              refine jl_y rfl (by decide) rfl (y_move rfl) ?_
              refine jl_skip rfl (by decide) rfl ?_
              refine jl_skip rfl (by decide) rfl ?_
              refine jl_y rfl (by decide) rfl (y_pick_false rfl rfl) ?_
              refine jl_y rfl (by decide) rfl (y_move rfl) ?_
              refine jl_skip rfl (by decide) rfl ?_
              refine jl_skip rfl (by decide) rfl ?_
              refine jl_y rfl (by decide) rfl (y_pick_false rfl rfl) ?_
              refine jl_y rfl (by decide) rfl (y_move rfl) ?_
              refine jl_skip rfl (by decide) rfl ?_
              refine jl_skip rfl (by decide) rfl ?_
              refine jl_y rfl (by decide) rfl (y_pick_false rfl rfl) ?_
              refine jl_y rfl (by decide) rfl (y_move rfl) ?_
              refine jl_skip rfl (by decide) rfl ?_
              refine jl_skip rfl (by decide) rfl ?_
              refine jl_y rfl (by decide) rfl (y_pick_false rfl rfl) ?_
              refine jl_y rfl (by decide) rfl (y_move rfl) ?_
              refine jl_skip rfl (by decide) rfl ?_
              refine jl_skip rfl (by decide) rfl ?_
              refine jl_skip rfl (by decide) rfl ?_
              refine jl_skip rfl (by decide) rfl ?_
              refine jl_skip rfl (by decide) rfl ?_
              refine jl_skip rfl (by decide) rfl ?_
              refine jl_y rfl (by decide) rfl (y_pick_false rfl rfl) ?_
              refine jl_y rfl (by decide) rfl (y_move rfl) ?_
              refine jl_skip rfl (by decide) rfl ?_
              refine jl_skip rfl (by decide) rfl ?_
              refine jl_skip rfl (by decide) rfl ?_
              refine jl_skip rfl (by decide) rfl ?_
              refine jl_skip rfl (by decide) rfl ?_
              refine jl_skip rfl (by decide) rfl ?_
              refine jl_y rfl (by decide) rfl (y_pick_false rfl rfl) ?_
              refine jl_y rfl (by decide) rfl (y_move rfl) ?_
              refine jl_skip rfl (by decide) rfl ?_
              refine jl_skip rfl (by decide) rfl ?_
              refine jl_skip rfl (by decide) rfl ?_
              refine jl_y rfl (by decide) rfl (y_pick_false rfl rfl) ?_
              refine jl_y rfl (by decide) rfl (y_move rfl) ?_
              refine jl_skip rfl (by decide) rfl ?_
              refine jl_skip rfl (by decide) rfl ?_
              refine jl_skip rfl (by decide) rfl ?_
              refine jl_skip rfl (by decide) rfl ?_
              refine jl_y rfl (by decide) rfl (y_pick_false rfl rfl) ?_
              refine jl_y rfl (by decide) rfl (y_move rfl) ?_
              refine jl_skip rfl (by decide) rfl ?_
              refine jl_skip rfl (by decide) rfl ?_
              refine jl_y rfl (by decide) rfl (y_pick_false rfl rfl) ?_
              refine jl_y rfl (by decide) rfl (y_assign rfl) ?_
              refine jl_nil ?_
              refine jq_then ?_
              refine jc_ret ?_
              refine jq_ret1 rfl rfl ?_
              exact fun _ hw => ⟨rfl, (hallo.next hw (by intro k hk; simp only [List.mem_cons, List.not_mem_nil, or_false] at hk; first | (rcases hk with rfl | rfl | rfl <;> first | exact ⟨_, mem0, rfl⟩ | exact ⟨_, mem1, rfl⟩ | exact ⟨_, mem2, rfl⟩) | (rcases hk with rfl | rfl <;> first | exact ⟨_, mem0, rfl⟩ | exact ⟨_, mem1, rfl⟩ | exact ⟨_, mem2, rfl⟩) | (subst hk; first | exact ⟨_, mem0, rfl⟩ | exact ⟨_, mem1, rfl⟩ | exact ⟨_, mem2, rfl⟩))).ch⟩
              )
          )
      · first
        | (exfalso; omega)
        | (
          refine jl_y rfl (by decide) rfl (y_move rfl) ?_
          refine jl_skip rfl (by decide) rfl ?_
          refine jl_skip rfl (by decide) rfl ?_
          refine jl_y rfl (by decide) rfl (y_pick_false rfl rfl) ?_
          refine jl_y rfl (by decide) rfl (y_move rfl) ?_
          refine jl_skip rfl (by decide) rfl ?_
          refine jl_skip rfl (by decide) rfl ?_
          refine jl_y rfl (by decide) rfl (y_pick_false rfl rfl) ?_
          refine jl_y rfl (by decide) rfl (y_move rfl) ?_
          refine jl_skip rfl (by decide) rfl ?_
          refine jl_skip rfl (by decide) rfl ?_
          refine jl_y rfl (by decide) rfl (y_pick_false rfl rfl) ?_
          refine jl_y rfl (by decide) rfl (y_move rfl) ?_
          refine jl_skip rfl (by decide) rfl ?_
          refine jl_skip rfl (by decide) rfl ?_
          refine jl_y rfl (by decide) rfl (y_pick_false rfl rfl) ?_
          refine jl_y rfl (by decide) rfl (y_move rfl) ?_
          refine jl_skip rfl (by decide) rfl ?_
          refine jl_skip rfl (by decide) rfl ?_
          refine jl_skip rfl (by decide) rfl ?_
          refine jl_y rfl (by decide) rfl (y_pick_false rfl rfl) ?_
          refine jl_y rfl (by decide) rfl (y_move rfl) ?_
          refine jl_skip rfl (by decide) rfl ?_
          refine jl_skip rfl (by decide) rfl ?_
          refine jl_skip rfl (by decide) rfl ?_
          refine jl_skip rfl (by decide) rfl ?_
          refine jl_y rfl (by decide) rfl (y_pick_false rfl rfl) ?_
          refine jl_y rfl (by decide) rfl (y_move rfl) ?_
          refine jl_skip rfl (by decide) rfl ?_
          refine jl_skip rfl (by decide) rfl ?_
          refine jl_skip rfl (by decide) rfl ?_
          refine jl_skip rfl (by decide) rfl ?_
          refine jl_y rfl (by decide) rfl (y_pick_false rfl rfl) ?_
          refine jl_y rfl (by decide) rfl (y_move rfl) ?_
          refine jl_skip rfl (by decide) rfl ?_
          refine jl_skip rfl (by decide) rfl ?_
          refine jl_skip rfl (by decide) rfl ?_
          refine jl_y rfl (by decide) rfl (y_pick_false rfl rfl) ?_
          refine jl_y rfl (by decide) rfl (y_move rfl) ?_
          refine jl_skip rfl (by decide) rfl ?_
          refine jl_skip rfl (by decide) rfl ?_
          refine jl_y rfl (by decide) rfl (y_pick_false rfl rfl) ?_
          refine jl_y rfl (by decide) rfl (y_move rfl) ?_
          refine jl_skip rfl (by decide) rfl ?_
          refine jl_skip rfl (by decide) rfl ?_
          refine jl_y rfl (by decide) rfl (y_pick_false rfl rfl) ?_
          refine jl_y rfl (by decide) rfl (y_move rfl) ?_
          refine jl_skip rfl (by decide) rfl ?_
          refine jl_skip rfl (by decide) rfl ?_
          refine jl_y rfl (by decide) rfl (y_pick_false rfl rfl) ?_
          refine jl_y rfl (by decide) rfl (y_move rfl) ?_
          refine jl_skip rfl (by decide) rfl ?_
          refine jl_skip rfl (by decide) rfl ?_
          refine jl_y rfl (by decide) rfl (y_pick_false rfl rfl) ?_
          refine jl_y rfl (by decide) rfl (y_move rfl) ?_
          refine jl_skip rfl (by decide) rfl ?_
          refine jl_skip rfl (by decide) rfl ?_
          refine jl_y rfl (by decide) rfl (y_pick_false rfl rfl) ?_
          refine jl_y rfl (by decide) rfl (y_move rfl) ?_
          refine jl_skip rfl (by decide) rfl ?_
          refine jl_skip rfl (by decide) rfl ?_
          refine jl_y rfl (by decide) rfl (y_pick_false rfl rfl) ?_
          refine jl_y rfl (by decide) rfl (y_move rfl) ?_
          refine jl_skip rfl (by decide) rfl ?_
          refine jl_skip rfl (by decide) rfl ?_
          refine jl_y rfl (by decide) rfl (y_pick_false rfl rfl) ?_
          refine jl_y rfl (by decide) rfl (y_move rfl) ?_
          refine jl_skip rfl (by decide) rfl ?_
          refine jl_skip rfl (by decide) rfl ?_
          refine jl_y rfl (by decide) rfl (y_pick_false rfl rfl) ?_
          refine jl_y rfl (by decide) rfl (y_move rfl) ?_
          refine jl_skip rfl (by decide) rfl ?_
          refine jl_skip rfl (by decide) rfl ?_
          refine jl_skip rfl (by decide) rfl ?_
          refine jl_skip rfl (by decide) rfl ?_
          refine jl_skip rfl (by decide) rfl ?_
          refine jl_skip rfl (by decide) rfl ?_
          refine jl_y rfl (by decide) rfl (y_pick_false rfl rfl) ?_
          refine jl_y rfl (by decide) rfl (y_move rfl) ?_
          refine jl_skip rfl (by decide) rfl ?_
          refine jl_skip rfl (by decide) rfl ?_
          refine jl_skip rfl (by decide) rfl ?_
          refine jl_skip rfl (by decide) rfl ?_
          refine jl_skip rfl (by decide) rfl ?_
          refine jl_skip rfl (by decide) rfl ?_
          refine jl_y rfl (by decide) rfl (y_pick_false rfl rfl) ?_
          refine jl_y rfl (by decide) rfl (y_move rfl) ?_
          refine jl_skip rfl (by decide) rfl ?_
          refine jl_skip rfl (by decide) rfl ?_
          refine jl_skip rfl (by decide) rfl ?_
          refine jl_y rfl (by decide) rfl (y_pick_false rfl rfl) ?_
          refine jl_y rfl (by decide) rfl (y_move rfl) ?_
          refine jl_skip rfl (by decide) rfl ?_
          refine jl_skip rfl (by decide) rfl ?_
          refine jl_skip rfl (by decide) rfl ?_
          refine jl_skip rfl (by decide) rfl ?_
          refine jl_y rfl (by decide) rfl (y_pick_false rfl rfl) ?_
          refine jl_y rfl (by decide) rfl (y_move rfl) ?_
          refine jl_skip rfl (by decide) rfl ?_
          refine jl_skip rfl (by decide) rfl ?_
          refine jl_y rfl (by decide) rfl (y_pick_false rfl rfl) ?_
          refine jl_y rfl (by decide) rfl (y_assign rfl) ?_
          refine jl_nil ?_
          refine jq_then ?_
          refine jc_ret ?_
          refine jq_ret1 rfl rfl ?_
          exact fun _ hw => ⟨rfl, (hallo.next hw (by intro k hk; simp only [List.mem_cons, List.not_mem_nil, or_false] at hk; first | (rcases hk with rfl | rfl | rfl <;> first | exact ⟨_, mem0, rfl⟩ | exact ⟨_, mem1, rfl⟩ | exact ⟨_, mem2, rfl⟩) | (rcases hk with rfl | rfl <;> first | exact ⟨_, mem0, rfl⟩ | exact ⟨_, mem1, rfl⟩ | exact ⟨_, mem2, rfl⟩) | (subst hk; first | exact ⟨_, mem0, rfl⟩ | exact ⟨_, mem1, rfl⟩ | exact ⟨_, mem2, rfl⟩))).ch⟩
          )
      )

end Go.Proofs.Ytbemnhllcpopbaa