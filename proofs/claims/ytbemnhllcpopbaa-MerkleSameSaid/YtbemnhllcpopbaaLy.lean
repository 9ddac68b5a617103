/- The walks of the laws of layer 7: keys. Written by program (walk.py) out of a table of contracts and invariants. -/
import Derived.Test.YtbemnhllcpopbaaLw
namespace Go.Proofs.Ytbemnhllcpopbaa
open Go.RowKit
set_option maxRecDepth 100000
set_option linter.unusedVariables false
set_option linter.unusedSimpArgs false
theorem strsO_nil {w : World} {ad : Option Addr} {ps : List ByteArray} (h : Strs w ad ps) : StrsO w [] ad ps := ⟨h, fun b o _ hm => by cases hm⟩
def IntsO (w : World) (S : List Nat) (ad : Option Addr) (k : IntKind) (xs : List Int) : Prop := Ints w ad k xs ∧ ∀ b o, ad = some ⟨b, o, none⟩ → xs ≠ [] → b ∉ S
theorem Ints.keepO {w w1 : World} {S : List Nat} {H : List HA} {ad : Option Addr} {k : IntKind} {xs : List Int} (h : IntsO w S ad k xs) (hw : Hp w S H w1) : Ints w1 ad k xs := fun i hi => let ⟨b, o, e, hc⟩ := h.1 i hi; ⟨b, o, e, hw.cell hc (h.2 b o e (by intro h0; subst h0; simp at hi))⟩
theorem IntsO.keep {w w1 : World} {S : List Nat} {H : List HA} {ad : Option Addr} {k : IntKind} {xs : List Int} (h : IntsO w S ad k xs) (hw : Hp w S H w1) : IntsO w1 S ad k xs := ⟨Ints.keepO h hw, h.2⟩
theorem IntsO.grow {w wp w1 : World} {S : List Nat} {H : List HA} {ad : Option Addr} {k : IntKind} {xs : List Int} {A : HA} {b : Nat} (h : IntsO w S ad k xs) (hp : Hp w S H wp) (hn : Fresh wp w1 A) (hA : A.foot = some b) : IntsO w1 (b :: S) ad k xs := by
  refine ⟨fun i hi => ?_, fun b' o e h0 hm => ?_⟩
  · obtain ⟨b', o, e, hc⟩ := Ints.keepO h hp i hi
    exact ⟨b', o, e, (show CellAt wp b' (o + i) _ from hc).ch hn.1⟩
  · rcases List.mem_cons.1 hm with rfl | hm
    · obtain ⟨b2, o2, e2, hc⟩ := h.1 0 (List.length_pos_iff.2 h0)
      rw [e] at e2
      cases e2
      have h1 := World.block_lt_of_cell? w _ hc
      have h2 := hn.2.2 _ hA
      have h3 := hp.ch.size
      have : b' < w.heap.size := h1
      omega
    · exact h.2 b' o e h0 hm
/-- Strings that lie apart from what may be written (nothing lies there, if there are none). -/
def StrsN (w : World) (S : List Nat) (ad : Option Addr) (ps : List ByteArray) : Prop := Strs w ad ps ∧ ∀ b o, ad = some ⟨b, o, none⟩ → ps ≠ [] → b ∉ S
theorem StrsN.strs {w w1 : World} {S : List Nat} {H : List HA} {ad : Option Addr} {ps : List ByteArray} (h : StrsN w S ad ps) (hw : Hp w S H w1) : Strs w1 ad ps := fun i p hp => let ⟨b, o, e, hc⟩ := h.1 i p hp; ⟨b, o, e, hw.cell hc (h.2 b o e (by intro h0; subst h0; simp at hp))⟩
theorem StrsN.keep {w w1 : World} {S : List Nat} {H : List HA} {ad : Option Addr} {ps : List ByteArray} (h : StrsN w S ad ps) (hw : Hp w S H w1) : StrsN w1 S ad ps := ⟨h.strs hw, h.2⟩
theorem StrsN.grow {w wp w1 : World} {S : List Nat} {H : List HA} {ad : Option Addr} {ps : List ByteArray} {A : HA} {b : Nat} (h : StrsN w S ad ps) (hp : Hp w S H wp) (hn : Fresh wp w1 A) (hA : A.foot = some b) : StrsN w1 (b :: S) ad ps := by
  refine ⟨(h.strs hp).ch hn.1, fun b' o e h0 hm => ?_⟩
  rcases List.mem_cons.1 hm with rfl | hm
  · subst e
    have h1 := h.1.block_lt (List.length_pos_iff.2 h0)
    have h2 := hn.2.2 _ hA
    have h3 := hp.ch.size
    omega
  · exact h.2 b' o e h0 hm
theorem br_cases (n m b : Int) : (0 ≤ b ∧ b ≤ m ∧ brE m b = 0 ∧ ((n < b ∧ brN n m b = b) ∨ (b ≤ n ∧ brN n m b = n))) ∨ ((b < 0 ∨ m < b) ∧ brE m b = 1 ∧ brN n m b = n) := by
  by_cases h : 0 ≤ b ∧ b ≤ m
  · rw [(br_ok (n := n) h).1, (br_ok (n := n) h).2, Int.max_def]; split <;> omega
  · rw [(br_bad (n := n) h).1, (br_bad (n := n) h).2]; omega
theorem tdiv3 (x : Int) : x.tdiv 3 = if 0 ≤ x then x / 3 else -((-x) / 3) := by
  split
  · rename_i h; exact Int.tdiv_eq_ediv_of_nonneg h
  · rename_i h
    have h1 : (-x).tdiv 3 = (-x) / 3 := Int.tdiv_eq_ediv_of_nonneg (by omega)
    rw [Int.neg_tdiv] at h1
    omega
theorem tdiv3_fits {x : Int} (h : fits .i64 x) : fits .i64 (x.tdiv 3) := by
  simp only [fits] at *
  rw [tdiv3]
  split <;> omega
def sOther : ByteArray := ⟨#[111, 116, 104, 101, 114]⟩
theorem max_eq {a b : Int} : max a b = if a < b then b else a := by rw [Int.max_def]; split <;> split <;> omega

theorem merkleSigns_ok (seed : ByteArray) (tall : Int) (ad : Option Addr) (c : Nat) (ps : List ByteArray) (w : World) (ht : fits .i64 tall) (hps : StrsN w [] ad ps) (hv : 0 ≤ tall ∧ tall ≤ 4) :
    Calls Try.prog 4 #[.string seed, .int .i64 tall, .slice ad ps.length c] w fun e w' => e = .returned (.bool true) ∧ Ch [] w w' := by
  simp only [fits] at ht
  have hcs := cutS_size seed 100
  obtain ⟨m, hm⟩ : ∃ m : Nat, (2 < tall ∧ (m : Int) = 2) ∨ (tall ≤ 2 ∧ (m : Int) = tall) := ⟨(min tall 2).toNat, by omega⟩
  have hm2 : m ≤ 2 := by omega
  have hp16 := pow_le16 (h := m) (by omega)
  have hro := (root_ok (leavesS_ok (cutS seed 100) (show m ≤ 4 by omega))).2
  have hll := leavesS_length (cutS seed 100) m
  refine calls_of (n := 158) (E := [(0, .string seed), (1, .int .i64 tall), (2, .slice ad ps.length c)]) (W := Hp w [] []) Try.func4 rfl rfl (Nat.le_of_ble_eq_true rfl) rfl (Hp.nil _ _) ?_
  refine jc_seq ?_
  -- region 0
  refine jc_region ?_
  refine jl_y rfl (by decide) rfl (y_assign rfl) ?_
  refine jl_nil ?_
  refine jq_then ?_
  refine jc_seq ?_
  -- region 1
  refine jc_region ?_
  refine jl_y rfl (by decide) rfl (y_move rfl) ?_
  refine jl_y rfl (by decide) rfl (y_move rfl) ?_
  refine jl_y rfl (by decide) rfl (y_len_str rfl) ?_
  refine jl_y rfl (by decide) rfl (y_min rfl rfl) ?_
  refine jl_y rfl (by decide) rfl (y_substr_hi rfl rfl (by omega) (by omega)) ?_
  refine jl_as (congrArg Value.string (cut_eq _ 100)) ?_
  refine jl_y rfl (by decide) rfl (y_assign rfl) ?_
  refine jl_nil ?_
  refine jq_then ?_
  refine jc_seq ?_
  -- region 2
  refine jc_region ?_
  refine jl_y rfl (by decide) rfl (y_move rfl) ?_
  refine jl_y rfl (by decide) rfl (y_assign rfl) ?_
  refine jl_nil ?_
  refine jq_then ?_
  refine jc_seq ?_
  refine jc_seq ?_
  -- region 3
  refine jc_region ?_
  refine jl_y rfl (by decide) rfl (y_move rfl) ?_
  refine jl_y rfl (by decide) rfl (y_gtr rfl rfl) ?_
  refine jl_prop (fun h24 => ?_) (fun h24 => ?_)
  · first
    | (exfalso; omega)
    | (
      refine jl_y rfl (by decide) rfl (y_move rfl) ?_
      refine jl_y rfl (by decide) rfl (y_move rfl) ?_
      refine jl_y rfl (by decide) rfl (y_leq rfl rfl) ?_
      refine jl_prop (fun h27 => ?_) (fun h27 => ?_)
      · first
        | (exfalso; omega)
        | (
          refine jl_y rfl (by decide) rfl (y_pick_true rfl rfl) ?_
          refine jl_nil ?_
          refine jq_then ?_
          refine jc_true rfl ?_
          -- region 4
          refine jc_region ?_
          refine jl_y rfl (by decide) rfl (y_assign rfl) ?_
          refine jl_nil ?_
          refine jq_then ?_
          refine jc_seq ?_
          -- region 5
          refine jc_region ?_
          refine jl_y rfl (by decide) rfl (y_move rfl) ?_
          refine jl_y rfl (by decide) rfl (y_move rfl) ?_
          refine jl_as (u := .int .i64 ((m : Nat) : Int)) (congrArg (Value.int .i64) (by omega)) ?_
          refine jl_ncall rfl (by decide) rfl (goes_func rfl) (fun w1 hw1 => mnew_ok ((cutS seed 100)) (m) w1 (by omega) (by omega)) (fun _ => rfl) (by first | (intro A hA; cases hA; done) | intro A hA k hk; simp only [List.mem_cons, List.not_mem_nil, or_false] at hA; first | (rcases hA with rfl | rfl | rfl <;> (cases hk; simp)) | (rcases hA with rfl | rfl <;> (cases hk; simp)) | (subst hA; cases hk; simp)) (fun bk wpk wk hpk hnk hfk => ?_)
          have hallk := hnk.hp (hpk)
          replace hps := hps.grow hpk hnk rfl
          have hkk := hfk [] (hpk.feet_lt (by intro k hk; first | (cases hk; done) | (simp only [List.mem_cons, List.not_mem_nil, or_false] at hk; subst hk; exact ⟨_, mem0, rfl⟩)))
          refine jl_y rfl (by decide) rfl (y_move rfl) ?_
          refine jl_y rfl (by decide) rfl (y_extract rfl rfl) ?_
          refine jl_y rfl (by decide) rfl (y_extract rfl rfl) ?_
          refine jl_y rfl (by decide) rfl (y_assign rfl) ?_
          refine jl_y rfl (by decide) rfl (y_assign rfl) ?_
          refine jl_nil ?_
          refine jq_then ?_
          refine jc_seq ?_
          refine jc_seq ?_
          -- region 6
          refine jc_region ?_
          refine jl_y rfl (by decide) rfl (y_move rfl) ?_
          refine jl_as (u := .int .i64 ((m : Nat) : Int)) (congrArg (Value.int .i64) (by omega)) ?_
          refine jl_y rfl (by decide) rfl (y_lss rfl rfl) ?_
          refine jl_prop (fun h36 => ?_) (fun h36 => ?_)
          · first
            | (exfalso; omega)
            | (
              refine jl_y rfl (by decide) rfl (y_move rfl) ?_
              refine jl_skip rfl (by decide) rfl ?_
              refine jl_skip rfl (by decide) rfl ?_
              refine jl_y rfl (by decide) rfl (y_pick_true rfl rfl) ?_
              refine jl_nil ?_
              refine jq_then ?_
              refine jc_true rfl ?_
              refine jc_seq ?_
              -- region 7
              refine jc_region ?_
              refine jl_y rfl (by decide) rfl (y_move rfl) ?_
              refine jl_y rfl (by decide) rfl (y_eql_nil rfl rfl) ?_
              refine jl_as (u := .bool false) rfl ?_
              refine jl_y rfl (by decide) rfl (y_move rfl) ?_
              refine jl_skip rfl (by decide) rfl ?_
              refine jl_skip rfl (by decide) rfl ?_
              refine jl_y rfl (by decide) rfl (y_pick_false rfl rfl) ?_
              refine jl_y rfl (by decide) rfl (y_move rfl) ?_
              refine jl_skip rfl (by decide) rfl ?_
              refine jl_y rfl (by decide) rfl (y_pick_false rfl rfl) ?_
              refine jl_y rfl (by decide) rfl (y_assign rfl) ?_
              refine jl_nil ?_
              refine jq_then ?_
              refine jc_ret ?_
              refine jq_then_ret ?_
              refine jq_ret1 rfl rfl ?_
              exact fun _ hw => ⟨rfl, (hallk.next hw (by repeat first | exact ⟨_, mem0, rfl⟩ | exact ⟨_, mem1, rfl⟩ | exact ⟨_, mem2, rfl⟩ | refine List.forall_mem_cons.2 ⟨?_, ?_⟩ | exact fun _ h => absurd h List.not_mem_nil)).ch⟩
              )
          · first
            | (exfalso; omega)
            | (
              refine jl_y rfl (by decide) rfl (y_move rfl) ?_
              refine jl_y rfl (by decide) rfl (y_move rfl) ?_
              refine jl_as (u := .int .i64 ((m : Nat) : Int)) (congrArg (Value.int .i64) (by omega)) ?_
              refine jl_y rfl (by decide) rfl (y_gtr rfl rfl) ?_
              refine jl_prop (fun h39 => ?_) (fun h39 => ?_)
              · first
                | (exfalso; omega)
                | (
                  refine jl_y rfl (by decide) rfl (y_pick_false rfl rfl) ?_
                  refine jl_nil ?_
                  refine jq_then ?_
                  refine jc_true rfl ?_
                  refine jc_seq ?_
                  -- region 7
                  refine jc_region ?_
                  refine jl_y rfl (by decide) rfl (y_move rfl) ?_
                  refine jl_y rfl (by decide) rfl (y_eql_nil rfl rfl) ?_
                  refine jl_as (u := .bool false) rfl ?_
                  refine jl_y rfl (by decide) rfl (y_move rfl) ?_
                  refine jl_skip rfl (by decide) rfl ?_
                  refine jl_skip rfl (by decide) rfl ?_
                  refine jl_y rfl (by decide) rfl (y_pick_false rfl rfl) ?_
                  refine jl_y rfl (by decide) rfl (y_move rfl) ?_
                  refine jl_skip rfl (by decide) rfl ?_
                  refine jl_y rfl (by decide) rfl (y_pick_false rfl rfl) ?_
                  refine jl_y rfl (by decide) rfl (y_assign rfl) ?_
                  refine jl_nil ?_
                  refine jq_then ?_
                  refine jc_ret ?_
                  refine jq_then_ret ?_
                  refine jq_ret1 rfl rfl ?_
                  exact fun _ hw => ⟨rfl, (hallk.next hw (by repeat first | exact ⟨_, mem0, rfl⟩ | exact ⟨_, mem1, rfl⟩ | exact ⟨_, mem2, rfl⟩ | refine List.forall_mem_cons.2 ⟨?_, ?_⟩ | exact fun _ h => absurd h List.not_mem_nil)).ch⟩
                  )
              · first
                | (exfalso; omega)
                | (
                  refine jl_y rfl (by decide) rfl (y_pick_false rfl rfl) ?_
                  refine jl_nil ?_
                  refine jq_then ?_
                  refine jc_false rfl ?_
                  refine jc_skip ?_
                  refine jq_then ?_
                  refine jc_seq ?_
                  -- region 8
                  refine jc_region ?_
                  refine jl_y rfl (by decide) rfl (y_move rfl) ?_
                  refine jl_y rfl (by decide) rfl (y_move rfl) ?_
                  refine jl_as (u := .int .i64 ((m : Nat) : Int)) (congrArg (Value.int .i64) (by omega)) ?_
                  refine jl_fcall rfl (by decide) rfl (goes_func rfl) (fun w1 hw1 => rleaves_any (cutS seed 100) m w1 (by omega) (by omega)) (fun ⟨la, lc⟩ => ?_)
                  refine jl_y rfl (by decide) rfl (y_assign rfl) ?_
                  refine jl_nil ?_
                  refine jq_then ?_
                  refine jc_seq ?_
                  -- region 9
                  refine jc_region ?_
                  refine jl_y rfl (by decide) rfl (y_move rfl) ?_
                  refine jl_pcall rfl (by decide) rfl (goes_func rfl) (fun w1 hw1 => pcall hw1 (rroot_any _ _ (leavesS (cutS seed 100) m) w1 (by omega) (Strs.of_own (hw1.get mem0)))) ?_
                  refine jl_y rfl (by decide) rfl (y_move rfl) ?_
                  refine jl_y rfl (by decide) rfl (y_extract rfl rfl) ?_
                  refine jl_as (u := .string (rootK (cutS seed 100) m)) rfl ?_
                  refine jl_y rfl (by decide) rfl (y_extract rfl rfl) ?_
                  refine jl_y rfl (by decide) rfl (y_assign rfl) ?_
                  refine jl_y rfl (by decide) rfl (y_assign rfl) ?_
                  refine jl_nil ?_
                  refine jq_then ?_
                  refine jc_seq ?_
                  refine jc_seq ?_
                  -- region 10
                  refine jc_region ?_
                  refine jl_y rfl (by decide) rfl (y_move rfl) ?_
                  refine jl_y rfl (by decide) rfl (y_eql_nil rfl rfl) ?_
                  refine jl_as (u := .bool false) rfl ?_
                  refine jl_y rfl (by decide) rfl (y_move rfl) ?_
                  refine jl_y rfl (by decide) rfl (y_move rfl) ?_
                  refine jl_y rfl (by decide) rfl (y_neq rfl rfl) ?_
                  refine jl_prop (fun h62 => ?_) (fun h62 => ?_)
                  · first
                    | (exfalso; omega)
                    | (
                      refine jl_y rfl (by decide) rfl (y_pick_false rfl rfl) ?_
                      refine jl_y rfl (by decide) rfl (y_move rfl) ?_
                      refine jl_skip rfl (by decide) rfl ?_
                      refine jl_skip rfl (by decide) rfl ?_
                      refine jl_skip rfl (by decide) rfl ?_
                      refine jl_skip rfl (by decide) rfl ?_
                      refine jl_y rfl (by decide) rfl (y_pick_true rfl rfl) ?_
                      refine jl_y rfl (by decide) rfl (y_move rfl) ?_
                      refine jl_skip rfl (by decide) rfl ?_
                      refine jl_skip rfl (by decide) rfl ?_
                      refine jl_skip rfl (by decide) rfl ?_
                      refine jl_skip rfl (by decide) rfl ?_
                      refine jl_skip rfl (by decide) rfl ?_
                      refine jl_skip rfl (by decide) rfl ?_
                      refine jl_y rfl (by decide) rfl (y_pick_true rfl rfl) ?_
                      refine jl_nil ?_
                      refine jq_then ?_
                      refine jc_true rfl ?_
                      refine jc_seq ?_
                      -- region 11
                      refine jc_region ?_
                      refine jl_y rfl (by decide) rfl (y_assign rfl) ?_
                      refine jl_nil ?_
                      refine jq_then ?_
                      refine jc_ret ?_
                      refine jq_then_ret ?_
                      refine jq_ret1 rfl rfl ?_
                      exact fun _ hw => ⟨rfl, (hallk.next hw (by repeat first | exact ⟨_, mem0, rfl⟩ | exact ⟨_, mem1, rfl⟩ | exact ⟨_, mem2, rfl⟩ | refine List.forall_mem_cons.2 ⟨?_, ?_⟩ | exact fun _ h => absurd h List.not_mem_nil)).ch⟩
                      )
                  · first
                    | (exfalso; omega)
                    | (
                      refine jl_y rfl (by decide) rfl (y_pick_false rfl rfl) ?_
                      refine jl_y rfl (by decide) rfl (y_move rfl) ?_
                      refine jl_y rfl (by decide) rfl (y_move rfl) ?_
                      refine jl_pcall rfl (by decide) rfl (goes_func rfl) (fun w1 hw1 => pcall hw1 (kroot_any _ bk.1 bk.2 (cutS seed 100) m w1 (hkk.keep hw1))) ?_
                      refine jl_y rfl (by decide) rfl (y_move rfl) ?_
                      refine jl_y rfl (by decide) rfl (y_sneq rfl rfl) ?_
                      refine jl_as (u := .bool false) (congrArg (fun b => Value.bool (!b)) (decide_eq_true (rfl))) ?_
                      refine jl_y rfl (by decide) rfl (y_pick_false rfl rfl) ?_
                      refine jl_y rfl (by decide) rfl (y_move rfl) ?_
                      refine jl_y rfl (by decide) rfl (y_move rfl) ?_
                      first | refine jl_y rfl (by decide) rfl (y_nilCheck rfl) ?_ | refine jl_y rfl (by decide) rfl (y_nilCheck_func rfl) ?_
                      refine jl_y rfl (by decide) rfl (y_fieldAddr rfl) ?_
                      refine jl_y rfl (by decide) rfl (y_load_old rfl hkk.2.1 hkk.1) ?_
                      refine jl_pcall rfl (by decide) rfl (goes_func rfl) (fun w1 hw1 => pcall hw1 (cnext_any bk.2 ((0 : Nat) : Int) w1 (CellAt.of_cells (hw1.get (A := .cells bk.2 [.int .i64 ((0 : Nat) : Int), .int .i64 ((2 ^ m : Nat) : Int)]) mem1) rfl))) ?_
                      refine jl_y rfl (by decide) rfl (y_neq rfl rfl) ?_
                      refine jl_prop (fun h76 => ?_) (fun h76 => ?_)
                      · first
                        | (exfalso; omega)
                        | (
                          refine jl_y rfl (by decide) rfl (y_pick_false rfl rfl) ?_
                          refine jl_nil ?_
                          refine jq_then ?_
                          refine jc_true rfl ?_
                          refine jc_seq ?_
                          -- region 11
                          refine jc_region ?_
                          refine jl_y rfl (by decide) rfl (y_assign rfl) ?_
                          refine jl_nil ?_
                          refine jq_then ?_
                          refine jc_ret ?_
                          refine jq_then_ret ?_
                          refine jq_ret1 rfl rfl ?_
                          exact fun _ hw => ⟨rfl, (hallk.next hw (by repeat first | exact ⟨_, mem0, rfl⟩ | exact ⟨_, mem1, rfl⟩ | exact ⟨_, mem2, rfl⟩ | refine List.forall_mem_cons.2 ⟨?_, ?_⟩ | exact fun _ h => absurd h List.not_mem_nil)).ch⟩
                          )
                      · first
                        | (exfalso; omega)
                        | (
                          refine jl_y rfl (by decide) rfl (y_pick_false rfl rfl) ?_
                          refine jl_nil ?_
                          refine jq_then ?_
                          refine jc_false rfl ?_
                          refine jc_skip ?_
                          refine jq_then ?_
                          refine jc_seq ?_
                          refine jc_seq ?_
                          -- region 12
                          refine jc_region ?_
                          refine jl_y rfl (by decide) rfl (y_assign rfl) ?_
                          refine jl_nil ?_
                          refine jq_then ?_
                          refine jc_block ?_
                          -- a loop
                          refine jc_loop2 (fun (i : Nat) (n : Nat) => [(0, .string (cutS seed 100)), (2, .slice ad ps.length c), (8, .pointer (some ⟨bk.1, 0, none⟩)), (10, .slice la (leavesS (cutS seed 100) m).length lc), (13, .int .i64 (i : Nat))]) (fun (i : Nat) (n : Nat) => fun w' => (i ≤ 5 ∧ ((n = i ∧ i ≤ 2 ^ m) ∨ (n = 2 ^ m ∧ 2 ^ m ≤ i))) ∧ Hp wk [bk.2] [.row (la) ((leavesS (cutS seed 100) m).length) (lc) 9 1 ((leavesS (cutS seed 100) m).map .string), .cells bk.2 [.int .i64 ((n : Nat) : Int), .int .i64 ((2 ^ m : Nat) : Int)]] w') (fun (i : Nat) (n : Nat) => 5 - i) 0 0 ?_ ?_ ?_
                          · exact ⟨rfl, rfl, rfl, rfl, rfl, trivial⟩
                          · exact fun _ h => ⟨by omega, h⟩
                          · intro i n
                            refine jc_and (fun hi2 => ?_)
                            obtain ⟨hi, hn⟩ := hi2
                            have hnn : 0 ≤ n := by omega
                            refine jc_seq ?_
                            refine jc_seq ?_
                            -- region 13
                            refine jc_region ?_
                            refine jl_y rfl (by decide) rfl (y_move rfl) ?_
                            refine jl_y rfl (by decide) rfl (y_move rfl) ?_
                            refine jl_y rfl (by decide) rfl (y_len_slice rfl) ?_
                            refine jl_y rfl (by decide) rfl (y_lss rfl rfl) ?_
                            refine jl_prop (fun h81 => ?_) (fun h81 => ?_)
                            · first
                              | (exfalso; omega)
                              | (
                                refine jl_y rfl (by decide) rfl (y_move rfl) ?_
                                refine jl_y rfl (by decide) rfl (y_move rfl) ?_
                                refine jl_y rfl (by decide) rfl (y_lss rfl rfl) ?_
                                refine jl_prop (fun h84 => ?_) (fun h84 => ?_)
                                · first
                                  | (exfalso; omega)
                                  | (
                                    obtain ⟨bb, oo, ea, hc⟩ := (hps.1 i _ (at0_some (show i < ps.length by omega)))
                                    have hbo := hps.2 bb oo ea (fun h0 => by have h1 : ps.length = 0 := (by rw [h0]; rfl); omega)
                                    subst ea
                                    have hcm := cutS_size (at0 ps i) 100
                                    refine jl_y rfl (by decide) rfl (y_pick_true rfl rfl) ?_
                                    refine jl_nil ?_
                                    refine jq_then ?_
                                    refine jc_true rfl ?_
                                    refine jc_skip ?_
                                    refine jq_then ?_
                                    refine jc_seq ?_
                                    refine jc_block ?_
                                    refine jc_seq ?_
                                    -- region 15
                                    refine jc_draw (by kernel_rfl) (fun _ h => h.drew) ?_
                                    refine ju_y rfl (by decide) rfl (y_move rfl) ?_
                                    refine ju_y rfl (by decide) rfl (y_move rfl) ?_
                                    refine ju_y rfl (by decide) rfl (y_indexAddr_slice (off := oo + i) rfl rfl (by omega) (by omega) (by omega)) ?_
                                    refine ju_y rfl (by decide) rfl (y_load_old rfl hc hbo) ?_
                                    refine ju_y rfl (by decide) rfl (y_move rfl) ?_
                                    refine ju_y rfl (by decide) rfl (y_move rfl) ?_
                                    refine ju_y rfl (by decide) rfl (y_indexAddr_slice (off := oo + i) rfl rfl (by omega) (by omega) (by omega)) ?_
                                    refine ju_y rfl (by decide) rfl (y_load_old rfl hc hbo) ?_
                                    refine ju_y rfl (by decide) rfl (y_len_str rfl) ?_
                                    refine ju_y rfl (by decide) rfl (y_min rfl rfl) ?_
                                    refine ju_y rfl (by decide) rfl (y_substr_hi rfl rfl (by omega) (by omega)) ?_
                                    refine ju_as (congrArg Value.string (cut_eq _ 100)) ?_
                                    refine ju_y rfl (by decide) rfl (y_assign rfl) ?_
                                    refine ju_nil ?_
                                    refine jq_then ?_
                                    refine jc_seq ?_
                                    -- region 16
                                    refine jc_region ?_
                                    refine jl_y rfl (by decide) rfl (y_move rfl) ?_
                                    refine jl_y rfl (by decide) rfl (y_move rfl) ?_
                                    refine jl_ucallH rfl (by decide) rfl (goes_func rfl) (by rfl) (fun w1 hw1 => ksign_all [bk.2] bk.1 bk.2 ((cutS seed 100)) (m) w1 (hkk.keep hw1) (by simp) (by omega) (by omega) (cutS (at0 ps i) 100) (by first | decide | omega) (n) (hw1.get mem1)) (by first | exact rep0 | exact rep1 | exact rep2 | exact rep3 | exact rep4) ?_
                                    refine jl_y rfl (by decide) rfl (y_move rfl) ?_
                                    refine jl_y rfl (by decide) rfl (y_extract rfl rfl) ?_
                                    refine jl_y rfl (by decide) rfl (y_extract rfl rfl) ?_
                                    refine jl_y rfl (by decide) rfl (y_assign rfl) ?_
                                    refine jl_y rfl (by decide) rfl (y_assign rfl) ?_
                                    refine jl_nil ?_
                                    refine jq_then ?_
                                    refine jc_seq ?_
                                    refine jc_seq ?_
                                    -- region 17
                                    refine jc_region ?_
                                    refine jl_y rfl (by decide) rfl (y_move rfl) ?_
                                    refine jl_y rfl (by decide) rfl (y_move rfl) ?_
                                    refine jl_y rfl (by decide) rfl (y_len_slice rfl) ?_
                                    refine jl_y rfl (by decide) rfl (y_geq rfl rfl) ?_
                                    refine jl_prop (fun h108 => ?_) (fun h108 => ?_)
                                    · first
                                      | (exfalso; omega)
                                      | (
                                        have hsb := @sg_bad (cutS seed 100) m n (cutS (at0 ps i) 100) (by omega)
                                        have hs2 := hsb.2.1
                                        have hs3 := hsb.2.2
                                        refine jl_nil ?_
                                        refine jq_then ?_
                                        refine jc_true rfl ?_
                                        refine jc_seq ?_
                                        refine jc_seq ?_
                                        -- region 18
                                        refine jc_region ?_
                                        refine jl_y rfl (by decide) rfl (y_move rfl) ?_
                                        refine jl_y rfl (by decide) rfl (y_sneq rfl rfl) ?_
                                        refine jl_as (u := .bool false) (congrArg (fun b => Value.bool (!b)) (decide_eq_true (hsb.1))) ?_
                                        refine jl_y rfl (by decide) rfl (y_move rfl) ?_
                                        refine jl_y rfl (by decide) rfl (y_move rfl) ?_
                                        refine jl_y rfl (by decide) rfl (y_neq rfl rfl) ?_
                                        refine jl_prop (fun h113 => ?_) (fun h113 => ?_)
                                        · first
                                          | (exfalso; omega)
                                          | (
                                            refine jl_y rfl (by decide) rfl (y_pick_false rfl rfl) ?_
                                            refine jl_y rfl (by decide) rfl (y_move rfl) ?_
                                            refine jl_skip rfl (by decide) rfl ?_
                                            refine jl_skip rfl (by decide) rfl ?_
                                            refine jl_skip rfl (by decide) rfl ?_
                                            refine jl_skip rfl (by decide) rfl ?_
                                            refine jl_skip rfl (by decide) rfl ?_
                                            refine jl_skip rfl (by decide) rfl ?_
                                            refine jl_y rfl (by decide) rfl (y_pick_true rfl rfl) ?_
                                            refine jl_nil ?_
                                            refine jq_then ?_
                                            refine jc_true rfl ?_
                                            refine jc_seq ?_
                                            -- region 19
                                            refine jc_region ?_
                                            refine jl_y rfl (by decide) rfl (y_assign rfl) ?_
                                            refine jl_nil ?_
                                            refine jq_then ?_
                                            refine jc_ret ?_
                                            refine jq_then_ret ?_
                                            refine jq_then_ret ?_
                                            refine jq_block_ret ?_
                                            refine jq_then_ret ?_
                                            refine jq_then_ret ?_
                                            refine jq_block_ret ?_
                                            refine jq_then_ret ?_
                                            refine jq_ret1 rfl rfl ?_
                                            exact fun _ hw => ⟨rfl, (hallk.next hw (by repeat first | exact ⟨_, mem0, rfl⟩ | exact ⟨_, mem1, rfl⟩ | exact ⟨_, mem2, rfl⟩ | refine List.forall_mem_cons.2 ⟨?_, ?_⟩ | exact fun _ h => absurd h List.not_mem_nil)).ch⟩
                                            )
                                        · first
                                          | (exfalso; omega)
                                          | (
                                            refine jl_y rfl (by decide) rfl (y_pick_false rfl rfl) ?_
                                            refine jl_y rfl (by decide) rfl (y_move rfl) ?_
                                            refine jl_y rfl (by decide) rfl (y_move rfl) ?_
                                            first | refine jl_y rfl (by decide) rfl (y_nilCheck rfl) ?_ | refine jl_y rfl (by decide) rfl (y_nilCheck_func rfl) ?_
                                            refine jl_y rfl (by decide) rfl (y_fieldAddr rfl) ?_
                                            refine jl_y rfl (by decide) rfl (y_load_old rfl hkk.2.1 hkk.1) ?_
                                            refine jl_pcall rfl (by decide) rfl (goes_func rfl) (fun w1 hw1 => pcall hw1 (cleft_any bk.2 ((sgN m n : Nat) : Int) ((2 ^ m : Nat) : Int) w1 (CellAt.of_cells (hw1.get (A := .cells bk.2 [.int .i64 ((sgN m n : Nat) : Int), .int .i64 ((2 ^ m : Nat) : Int)]) mem1) rfl) (CellAt.of_cells (hw1.get (A := .cells bk.2 [.int .i64 ((sgN m n : Nat) : Int), .int .i64 ((2 ^ m : Nat) : Int)]) mem1) rfl) (by omega) (by omega) (by omega))) ?_
                                            refine jl_y rfl (by decide) rfl (y_neq rfl rfl) ?_
                                            refine jl_prop (fun h121 => ?_) (fun h121 => ?_)
                                            · first
                                              | (exfalso; omega)
                                              | (
                                                refine jl_y rfl (by decide) rfl (y_pick_false rfl rfl) ?_
                                                refine jl_nil ?_
                                                refine jq_then ?_
                                                refine jc_true rfl ?_
                                                refine jc_seq ?_
                                                -- region 19
                                                refine jc_region ?_
                                                refine jl_y rfl (by decide) rfl (y_assign rfl) ?_
                                                refine jl_nil ?_
                                                refine jq_then ?_
                                                refine jc_ret ?_
                                                refine jq_then_ret ?_
                                                refine jq_then_ret ?_
                                                refine jq_block_ret ?_
                                                refine jq_then_ret ?_
                                                refine jq_then_ret ?_
                                                refine jq_block_ret ?_
                                                refine jq_then_ret ?_
                                                refine jq_ret1 rfl rfl ?_
                                                exact fun _ hw => ⟨rfl, (hallk.next hw (by repeat first | exact ⟨_, mem0, rfl⟩ | exact ⟨_, mem1, rfl⟩ | exact ⟨_, mem2, rfl⟩ | refine List.forall_mem_cons.2 ⟨?_, ?_⟩ | exact fun _ h => absurd h List.not_mem_nil)).ch⟩
                                                )
                                            · first
                                              | (exfalso; omega)
                                              | (
                                                refine jl_y rfl (by decide) rfl (y_pick_false rfl rfl) ?_
                                                refine jl_nil ?_
                                                refine jq_then ?_
                                                refine jc_false rfl ?_
                                                refine jc_skip ?_
                                                refine jq_then ?_
                                                refine jc_exit ?_
                                                refine jq_then_exit ?_
                                                refine jq_hit ?_
                                                refine jq_then ?_
                                                -- region 14
                                                refine jc_region ?_
                                                refine jl_y rfl (by decide) rfl (y_move rfl) ?_
                                                refine jl_y rfl (by decide) rfl (y_add_fits rfl rfl (by simp only [fits]; omega)) ?_
                                                refine jl_y rfl (by decide) rfl (y_assign rfl) ?_
                                                refine jl_nil ?_
                                                refine jq_round2 (i := i) (j := n) (i + 1) (sgN m n) ?_ ?_ ?_
                                                · omega
                                                · exact ⟨rfl, rfl, rfl, rfl, lk_int rfl (by omega), trivial⟩
                                                · exact fun _ h => ⟨by omega, h⟩
                                                )
                                            )
                                        )
                                    · first
                                      | (exfalso; omega)
                                      | (
                                        have hni : n = i := by omega
                                        have hsb := @sg_ok (cutS seed 100) m n (cutS (at0 ps i) 100) (by omega)
                                        have hs2 := hsb.2.1
                                        have hs3 := hsb.2.2
                                        refine jl_nil ?_
                                        refine jq_then ?_
                                        refine jc_false rfl ?_
                                        refine jc_skip ?_
                                        refine jq_then ?_
                                        refine jc_seq ?_
                                        -- region 20
                                        refine jc_region ?_
                                        refine jl_y rfl (by decide) rfl (y_move rfl) ?_
                                        refine jl_y rfl (by decide) rfl (y_move rfl) ?_
                                        refine jl_y rfl (by decide) rfl (y_move rfl) ?_
                                        refine jl_y rfl (by decide) rfl (y_move rfl) ?_
                                        refine jl_y rfl (by decide) rfl (y_move rfl) ?_
                                        refine jl_pcall rfl (by decide) rfl (goes_func rfl) (fun w1 hw1 => pcall hw1 (rksign_any (cutS seed 100) m la lc i (cutS (at0 ps i) 100) w1 (by omega) (by omega) (by omega) (by omega) (Strs.of_own (hw1.get mem0)))) ?_
                                        refine jl_y rfl (by decide) rfl (y_sneq rfl rfl) ?_
                                        refine jl_as (u := .bool false) (congrArg (fun b => Value.bool (!b)) (decide_eq_true (by rw [hsb.1, hni]))) ?_
                                        refine jl_y rfl (by decide) rfl (y_move rfl) ?_
                                        refine jl_y rfl (by decide) rfl (y_move rfl) ?_
                                        refine jl_y rfl (by decide) rfl (y_neq rfl rfl) ?_
                                        refine jl_prop (fun h132 => ?_) (fun h132 => ?_)
                                        · first
                                          | (exfalso; omega)
                                          | (
                                            refine jl_y rfl (by decide) rfl (y_pick_false rfl rfl) ?_
                                            refine jl_y rfl (by decide) rfl (y_move rfl) ?_
                                            refine jl_skip rfl (by decide) rfl ?_
                                            refine jl_skip rfl (by decide) rfl ?_
                                            refine jl_skip rfl (by decide) rfl ?_
                                            refine jl_skip rfl (by decide) rfl ?_
                                            refine jl_skip rfl (by decide) rfl ?_
                                            refine jl_skip rfl (by decide) rfl ?_
                                            refine jl_skip rfl (by decide) rfl ?_
                                            refine jl_skip rfl (by decide) rfl ?_
                                            refine jl_y rfl (by decide) rfl (y_pick_true rfl rfl) ?_
                                            refine jl_y rfl (by decide) rfl (y_move rfl) ?_
                                            refine jl_skip rfl (by decide) rfl ?_
                                            refine jl_skip rfl (by decide) rfl ?_
                                            refine jl_skip rfl (by decide) rfl ?_
                                            refine jl_skip rfl (by decide) rfl ?_
                                            refine jl_skip rfl (by decide) rfl ?_
                                            refine jl_skip rfl (by decide) rfl ?_
                                            refine jl_skip rfl (by decide) rfl ?_
                                            refine jl_skip rfl (by decide) rfl ?_
                                            refine jl_skip rfl (by decide) rfl ?_
                                            refine jl_skip rfl (by decide) rfl ?_
                                            refine jl_skip rfl (by decide) rfl ?_
                                            refine jl_y rfl (by decide) rfl (y_pick_true rfl rfl) ?_
                                            refine jl_nil ?_
                                            refine jq_then ?_
                                            refine jc_true rfl ?_
                                            refine jc_seq ?_
                                            -- region 21
                                            refine jc_region ?_
                                            refine jl_y rfl (by decide) rfl (y_assign rfl) ?_
                                            refine jl_nil ?_
                                            refine jq_then ?_
                                            refine jc_ret ?_
                                            refine jq_block_ret ?_
                                            refine jq_then_ret ?_
                                            refine jq_then_ret ?_
                                            refine jq_block_ret ?_
                                            refine jq_then_ret ?_
                                            refine jq_ret1 rfl rfl ?_
                                            exact fun _ hw => ⟨rfl, (hallk.next hw (by repeat first | exact ⟨_, mem0, rfl⟩ | exact ⟨_, mem1, rfl⟩ | exact ⟨_, mem2, rfl⟩ | refine List.forall_mem_cons.2 ⟨?_, ?_⟩ | exact fun _ h => absurd h List.not_mem_nil)).ch⟩
                                            )
                                        · first
                                          | (exfalso; omega)
                                          | (
                                            refine jl_y rfl (by decide) rfl (y_pick_false rfl rfl) ?_
                                            refine jl_y rfl (by decide) rfl (y_move rfl) ?_
                                            refine jl_y rfl (by decide) rfl (y_move rfl) ?_
                                            first | refine jl_y rfl (by decide) rfl (y_nilCheck rfl) ?_ | refine jl_y rfl (by decide) rfl (y_nilCheck_func rfl) ?_
                                            refine jl_y rfl (by decide) rfl (y_fieldAddr rfl) ?_
                                            refine jl_y rfl (by decide) rfl (y_load_old rfl hkk.2.1 hkk.1) ?_
                                            refine jl_pcall rfl (by decide) rfl (goes_func rfl) (fun w1 hw1 => pcall hw1 (cnext_any bk.2 ((sgN m n : Nat) : Int) w1 (CellAt.of_cells (hw1.get (A := .cells bk.2 [.int .i64 ((sgN m n : Nat) : Int), .int .i64 ((2 ^ m : Nat) : Int)]) mem1) rfl))) ?_
                                            refine jl_y rfl (by decide) rfl (y_move rfl) ?_
                                            refine jl_y rfl (by decide) rfl (y_add_fits rfl rfl (by simp only [fits]; omega)) ?_
                                            refine jl_y rfl (by decide) rfl (y_neq rfl rfl) ?_
                                            refine jl_prop (fun h142 => ?_) (fun h142 => ?_)
                                            · first
                                              | (exfalso; omega)
                                              | (
                                                refine jl_y rfl (by decide) rfl (y_pick_false rfl rfl) ?_
                                                refine jl_y rfl (by decide) rfl (y_move rfl) ?_
                                                refine jl_skip rfl (by decide) rfl ?_
                                                refine jl_skip rfl (by decide) rfl ?_
                                                refine jl_skip rfl (by decide) rfl ?_
                                                refine jl_skip rfl (by decide) rfl ?_
                                                refine jl_skip rfl (by decide) rfl ?_
                                                refine jl_skip rfl (by decide) rfl ?_
                                                refine jl_skip rfl (by decide) rfl ?_
                                                refine jl_skip rfl (by decide) rfl ?_
                                                refine jl_skip rfl (by decide) rfl ?_
                                                refine jl_skip rfl (by decide) rfl ?_
                                                refine jl_skip rfl (by decide) rfl ?_
                                                refine jl_y rfl (by decide) rfl (y_pick_true rfl rfl) ?_
                                                refine jl_nil ?_
                                                refine jq_then ?_
                                                refine jc_true rfl ?_
                                                refine jc_seq ?_
                                                -- region 21
                                                refine jc_region ?_
                                                refine jl_y rfl (by decide) rfl (y_assign rfl) ?_
                                                refine jl_nil ?_
                                                refine jq_then ?_
                                                refine jc_ret ?_
                                                refine jq_block_ret ?_
                                                refine jq_then_ret ?_
                                                refine jq_then_ret ?_
                                                refine jq_block_ret ?_
                                                refine jq_then_ret ?_
                                                refine jq_ret1 rfl rfl ?_
                                                exact fun _ hw => ⟨rfl, (hallk.next hw (by repeat first | exact ⟨_, mem0, rfl⟩ | exact ⟨_, mem1, rfl⟩ | exact ⟨_, mem2, rfl⟩ | refine List.forall_mem_cons.2 ⟨?_, ?_⟩ | exact fun _ h => absurd h List.not_mem_nil)).ch⟩
                                                )
                                            · first
                                              | (exfalso; omega)
                                              | (
                                                refine jl_y rfl (by decide) rfl (y_pick_false rfl rfl) ?_
                                                refine jl_y rfl (by decide) rfl (y_move rfl) ?_
                                                refine jl_y rfl (by decide) rfl (y_move rfl) ?_
                                                first | refine jl_y rfl (by decide) rfl (y_nilCheck rfl) ?_ | refine jl_y rfl (by decide) rfl (y_nilCheck_func rfl) ?_
                                                refine jl_y rfl (by decide) rfl (y_fieldAddr rfl) ?_
                                                refine jl_y rfl (by decide) rfl (y_load_old rfl hkk.2.1 hkk.1) ?_
                                                refine jl_pcall rfl (by decide) rfl (goes_func rfl) (fun w1 hw1 => pcall hw1 (cleft_any bk.2 ((sgN m n : Nat) : Int) ((2 ^ m : Nat) : Int) w1 (CellAt.of_cells (hw1.get (A := .cells bk.2 [.int .i64 ((sgN m n : Nat) : Int), .int .i64 ((2 ^ m : Nat) : Int)]) mem1) rfl) (CellAt.of_cells (hw1.get (A := .cells bk.2 [.int .i64 ((sgN m n : Nat) : Int), .int .i64 ((2 ^ m : Nat) : Int)]) mem1) rfl) (by omega) (by omega) (by omega))) ?_
                                                refine jl_y rfl (by decide) rfl (y_move rfl) ?_
                                                refine jl_y rfl (by decide) rfl (y_len_slice rfl) ?_
                                                refine jl_y rfl (by decide) rfl (y_move rfl) ?_
                                                refine jl_y rfl (by decide) rfl (y_sub_fits rfl rfl (by simp only [fits]; omega)) ?_
                                                refine jl_y rfl (by decide) rfl (y_sub_fits rfl rfl (by simp only [fits]; omega)) ?_
                                                refine jl_y rfl (by decide) rfl (y_neq rfl rfl) ?_
                                                refine jl_prop (fun h155 => ?_) (fun h155 => ?_)
                                                · first
                                                  | (exfalso; omega)
                                                  | (
                                                    refine jl_y rfl (by decide) rfl (y_pick_false rfl rfl) ?_
                                                    refine jl_nil ?_
                                                    refine jq_then ?_
                                                    refine jc_true rfl ?_
                                                    refine jc_seq ?_
                                                    -- region 21
                                                    refine jc_region ?_
                                                    refine jl_y rfl (by decide) rfl (y_assign rfl) ?_
                                                    refine jl_nil ?_
                                                    refine jq_then ?_
                                                    refine jc_ret ?_
                                                    refine jq_block_ret ?_
                                                    refine jq_then_ret ?_
                                                    refine jq_then_ret ?_
                                                    refine jq_block_ret ?_
                                                    refine jq_then_ret ?_
                                                    refine jq_ret1 rfl rfl ?_
                                                    exact fun _ hw => ⟨rfl, (hallk.next hw (by repeat first | exact ⟨_, mem0, rfl⟩ | exact ⟨_, mem1, rfl⟩ | exact ⟨_, mem2, rfl⟩ | refine List.forall_mem_cons.2 ⟨?_, ?_⟩ | exact fun _ h => absurd h List.not_mem_nil)).ch⟩
                                                    )
                                                · first
                                                  | (exfalso; omega)
                                                  | (
                                                    refine jl_y rfl (by decide) rfl (y_pick_false rfl rfl) ?_
                                                    refine jl_nil ?_
                                                    refine jq_then ?_
                                                    refine jc_false rfl ?_
                                                    refine jc_skip ?_
                                                    refine jq_block ?_
                                                    refine jq_then ?_
                                                    -- region 14
                                                    refine jc_region ?_
                                                    refine jl_y rfl (by decide) rfl (y_move rfl) ?_
                                                    refine jl_y rfl (by decide) rfl (y_add_fits rfl rfl (by simp only [fits]; omega)) ?_
                                                    refine jl_y rfl (by decide) rfl (y_assign rfl) ?_
                                                    refine jl_nil ?_
                                                    refine jq_round2 (i := i) (j := n) (i + 1) (sgN m n) ?_ ?_ ?_
                                                    · omega
                                                    · exact ⟨rfl, rfl, rfl, rfl, lk_int rfl (by omega), trivial⟩
                                                    · exact fun _ h => ⟨by omega, h⟩
                                                    )
                                                )
                                            )
                                        )
                                    )
                                · first
                                  | (exfalso; omega)
                                  | (
                                    refine jl_y rfl (by decide) rfl (y_pick_true rfl rfl) ?_
                                    refine jl_nil ?_
                                    refine jq_then ?_
                                    refine jc_false rfl ?_
                                    refine jc_exit ?_
                                    refine jq_then_exit ?_
                                    refine jq_then_exit ?_
                                    refine jq_hit ?_
                                    refine jq_then ?_
                                    refine jc_seq ?_
                                    -- region 22
                                    refine jc_region ?_
                                    refine jl_pcall rfl (by decide) rfl (goes_func rfl) (fun w1 hw1 => pcall hw1 (fixed7_any w1)) ?_
                                    refine jl_y rfl (by decide) rfl (y_assign rfl) ?_
                                    refine jl_nil ?_
                                    refine jq_then ?_
                                    refine jc_ret ?_
                                    refine jq_ret1 rfl rfl ?_
                                    exact fun _ hw => ⟨rfl, (hallk.next hw (by repeat first | exact ⟨_, mem0, rfl⟩ | exact ⟨_, mem1, rfl⟩ | exact ⟨_, mem2, rfl⟩ | refine List.forall_mem_cons.2 ⟨?_, ?_⟩ | exact fun _ h => absurd h List.not_mem_nil)).ch⟩
                                    )
                                )
                            · first
                              | (exfalso; omega)
                              | (
                                refine jl_y rfl (by decide) rfl (y_move rfl) ?_
                                refine jl_skip rfl (by decide) rfl ?_
                                refine jl_skip rfl (by decide) rfl ?_
                                refine jl_y rfl (by decide) rfl (y_pick_false rfl rfl) ?_
                                refine jl_nil ?_
                                refine jq_then ?_
                                refine jc_false rfl ?_
                                refine jc_exit ?_
                                refine jq_then_exit ?_
                                refine jq_then_exit ?_
                                refine jq_hit ?_
                                refine jq_then ?_
                                refine jc_seq ?_
                                -- region 22
                                refine jc_region ?_
                                refine jl_pcall rfl (by decide) rfl (goes_func rfl) (fun w1 hw1 => pcall hw1 (fixed7_any w1)) ?_
                                refine jl_y rfl (by decide) rfl (y_assign rfl) ?_
                                refine jl_nil ?_
                                refine jq_then ?_
                                refine jc_ret ?_
                                refine jq_ret1 rfl rfl ?_
                                exact fun _ hw => ⟨rfl, (hallk.next hw (by repeat first | exact ⟨_, mem0, rfl⟩ | exact ⟨_, mem1, rfl⟩ | exact ⟨_, mem2, rfl⟩ | refine List.forall_mem_cons.2 ⟨?_, ?_⟩ | exact fun _ h => absurd h List.not_mem_nil)).ch⟩
                                )
                          )
                      )
                  )
              )
          )
      · first
        | (exfalso; omega)
        | (
          refine jl_y rfl (by decide) rfl (y_pick_true rfl rfl) ?_
          refine jl_nil ?_
          refine jq_then ?_
          refine jc_false rfl ?_
          refine jc_skip ?_
          refine jq_then ?_
          refine jc_seq ?_
          -- region 5
          refine jc_region ?_
          refine jl_y rfl (by decide) rfl (y_move rfl) ?_
          refine jl_y rfl (by decide) rfl (y_move rfl) ?_
          refine jl_as (u := .int .i64 ((m : Nat) : Int)) (congrArg (Value.int .i64) (by omega)) ?_
          refine jl_ncall rfl (by decide) rfl (goes_func rfl) (fun w1 hw1 => mnew_ok ((cutS seed 100)) (m) w1 (by omega) (by omega)) (fun _ => rfl) (by first | (intro A hA; cases hA; done) | intro A hA k hk; simp only [List.mem_cons, List.not_mem_nil, or_false] at hA; first | (rcases hA with rfl | rfl | rfl <;> (cases hk; simp)) | (rcases hA with rfl | rfl <;> (cases hk; simp)) | (subst hA; cases hk; simp)) (fun bk wpk wk hpk hnk hfk => ?_)
          have hallk := hnk.hp (hpk)
          replace hps := hps.grow hpk hnk rfl
          have hkk := hfk [] (hpk.feet_lt (by intro k hk; first | (cases hk; done) | (simp only [List.mem_cons, List.not_mem_nil, or_false] at hk; subst hk; exact ⟨_, mem0, rfl⟩)))
          refine jl_y rfl (by decide) rfl (y_move rfl) ?_
          refine jl_y rfl (by decide) rfl (y_extract rfl rfl) ?_
          refine jl_y rfl (by decide) rfl (y_extract rfl rfl) ?_
          refine jl_y rfl (by decide) rfl (y_assign rfl) ?_
          refine jl_y rfl (by decide) rfl (y_assign rfl) ?_
          refine jl_nil ?_
          refine jq_then ?_
          refine jc_seq ?_
          refine jc_seq ?_
          -- region 6
          refine jc_region ?_
          refine jl_y rfl (by decide) rfl (y_move rfl) ?_
          refine jl_as (u := .int .i64 ((m : Nat) : Int)) (congrArg (Value.int .i64) (by omega)) ?_
          refine jl_y rfl (by decide) rfl (y_lss rfl rfl) ?_
          refine jl_prop (fun h36 => ?_) (fun h36 => ?_)
          · first
            | (exfalso; omega)
            | (
              refine jl_y rfl (by decide) rfl (y_move rfl) ?_
              refine jl_skip rfl (by decide) rfl ?_
              refine jl_skip rfl (by decide) rfl ?_
              refine jl_y rfl (by decide) rfl (y_pick_true rfl rfl) ?_
              refine jl_nil ?_
              refine jq_then ?_
              refine jc_true rfl ?_
              refine jc_seq ?_
              -- region 7
              refine jc_region ?_
              refine jl_y rfl (by decide) rfl (y_move rfl) ?_
              refine jl_y rfl (by decide) rfl (y_eql_nil rfl rfl) ?_
              refine jl_as (u := .bool false) rfl ?_
              refine jl_y rfl (by decide) rfl (y_move rfl) ?_
              refine jl_skip rfl (by decide) rfl ?_
              refine jl_skip rfl (by decide) rfl ?_
              refine jl_y rfl (by decide) rfl (y_pick_false rfl rfl) ?_
              refine jl_y rfl (by decide) rfl (y_move rfl) ?_
              refine jl_skip rfl (by decide) rfl ?_
              refine jl_y rfl (by decide) rfl (y_pick_false rfl rfl) ?_
              refine jl_y rfl (by decide) rfl (y_assign rfl) ?_
              refine jl_nil ?_
              refine jq_then ?_
              refine jc_ret ?_
              refine jq_then_ret ?_
              refine jq_ret1 rfl rfl ?_
              exact fun _ hw => ⟨rfl, (hallk.next hw (by repeat first | exact ⟨_, mem0, rfl⟩ | exact ⟨_, mem1, rfl⟩ | exact ⟨_, mem2, rfl⟩ | refine List.forall_mem_cons.2 ⟨?_, ?_⟩ | exact fun _ h => absurd h List.not_mem_nil)).ch⟩
              )
          · first
            | (exfalso; omega)
            | (
              refine jl_y rfl (by decide) rfl (y_move rfl) ?_
              refine jl_y rfl (by decide) rfl (y_move rfl) ?_
              refine jl_as (u := .int .i64 ((m : Nat) : Int)) (congrArg (Value.int .i64) (by omega)) ?_
              refine jl_y rfl (by decide) rfl (y_gtr rfl rfl) ?_
              refine jl_prop (fun h39 => ?_) (fun h39 => ?_)
              · first
                | (exfalso; omega)
                | (
                  refine jl_y rfl (by decide) rfl (y_pick_false rfl rfl) ?_
                  refine jl_nil ?_
                  refine jq_then ?_
                  refine jc_true rfl ?_
                  refine jc_seq ?_
                  -- region 7
                  refine jc_region ?_
                  refine jl_y rfl (by decide) rfl (y_move rfl) ?_
                  refine jl_y rfl (by decide) rfl (y_eql_nil rfl rfl) ?_
                  refine jl_as (u := .bool false) rfl ?_
                  refine jl_y rfl (by decide) rfl (y_move rfl) ?_
                  refine jl_skip rfl (by decide) rfl ?_
                  refine jl_skip rfl (by decide) rfl ?_
                  refine jl_y rfl (by decide) rfl (y_pick_false rfl rfl) ?_
                  refine jl_y rfl (by decide) rfl (y_move rfl) ?_
                  refine jl_skip rfl (by decide) rfl ?_
                  refine jl_y rfl (by decide) rfl (y_pick_false rfl rfl) ?_
                  refine jl_y rfl (by decide) rfl (y_assign rfl) ?_
                  refine jl_nil ?_
                  refine jq_then ?_
                  refine jc_ret ?_
                  refine jq_then_ret ?_
                  refine jq_ret1 rfl rfl ?_
                  exact fun _ hw => ⟨rfl, (hallk.next hw (by repeat first | exact ⟨_, mem0, rfl⟩ | exact ⟨_, mem1, rfl⟩ | exact ⟨_, mem2, rfl⟩ | refine List.forall_mem_cons.2 ⟨?_, ?_⟩ | exact fun _ h => absurd h List.not_mem_nil)).ch⟩
                  )
              · first
                | (exfalso; omega)
                | (
                  refine jl_y rfl (by decide) rfl (y_pick_false rfl rfl) ?_
                  refine jl_nil ?_
                  refine jq_then ?_
                  refine jc_false rfl ?_
                  refine jc_skip ?_
                  refine jq_then ?_
                  refine jc_seq ?_
                  -- region 8
                  refine jc_region ?_
                  refine jl_y rfl (by decide) rfl (y_move rfl) ?_
                  refine jl_y rfl (by decide) rfl (y_move rfl) ?_
                  refine jl_as (u := .int .i64 ((m : Nat) : Int)) (congrArg (Value.int .i64) (by omega)) ?_
                  refine jl_fcall rfl (by decide) rfl (goes_func rfl) (fun w1 hw1 => rleaves_any (cutS seed 100) m w1 (by omega) (by omega)) (fun ⟨la, lc⟩ => ?_)
                  refine jl_y rfl (by decide) rfl (y_assign rfl) ?_
                  refine jl_nil ?_
                  refine jq_then ?_
                  refine jc_seq ?_
                  -- region 9
                  refine jc_region ?_
                  refine jl_y rfl (by decide) rfl (y_move rfl) ?_
                  refine jl_pcall rfl (by decide) rfl (goes_func rfl) (fun w1 hw1 => pcall hw1 (rroot_any _ _ (leavesS (cutS seed 100) m) w1 (by omega) (Strs.of_own (hw1.get mem0)))) ?_
                  refine jl_y rfl (by decide) rfl (y_move rfl) ?_
                  refine jl_y rfl (by decide) rfl (y_extract rfl rfl) ?_
                  refine jl_as (u := .string (rootK (cutS seed 100) m)) rfl ?_
                  refine jl_y rfl (by decide) rfl (y_extract rfl rfl) ?_
                  refine jl_y rfl (by decide) rfl (y_assign rfl) ?_
                  refine jl_y rfl (by decide) rfl (y_assign rfl) ?_
                  refine jl_nil ?_
                  refine jq_then ?_
                  refine jc_seq ?_
                  refine jc_seq ?_
                  -- region 10
                  refine jc_region ?_
                  refine jl_y rfl (by decide) rfl (y_move rfl) ?_
                  refine jl_y rfl (by decide) rfl (y_eql_nil rfl rfl) ?_
                  refine jl_as (u := .bool false) rfl ?_
                  refine jl_y rfl (by decide) rfl (y_move rfl) ?_
                  refine jl_y rfl (by decide) rfl (y_move rfl) ?_
                  refine jl_y rfl (by decide) rfl (y_neq rfl rfl) ?_
                  refine jl_prop (fun h62 => ?_) (fun h62 => ?_)
                  · first
                    | (exfalso; omega)
                    | (
                      refine jl_y rfl (by decide) rfl (y_pick_false rfl rfl) ?_
                      refine jl_y rfl (by decide) rfl (y_move rfl) ?_
                      refine jl_skip rfl (by decide) rfl ?_
                      refine jl_skip rfl (by decide) rfl ?_
                      refine jl_skip rfl (by decide) rfl ?_
                      refine jl_skip rfl (by decide) rfl ?_
                      refine jl_y rfl (by decide) rfl (y_pick_true rfl rfl) ?_
                      refine jl_y rfl (by decide) rfl (y_move rfl) ?_
                      refine jl_skip rfl (by decide) rfl ?_
                      refine jl_skip rfl (by decide) rfl ?_
                      refine jl_skip rfl (by decide) rfl ?_
                      refine jl_skip rfl (by decide) rfl ?_
                      refine jl_skip rfl (by decide) rfl ?_
                      refine jl_skip rfl (by decide) rfl ?_
                      refine jl_y rfl (by decide) rfl (y_pick_true rfl rfl) ?_
                      refine jl_nil ?_
                      refine jq_then ?_
                      refine jc_true rfl ?_
                      refine jc_seq ?_
                      -- region 11
                      refine jc_region ?_
                      refine jl_y rfl (by decide) rfl (y_assign rfl) ?_
                      refine jl_nil ?_
                      refine jq_then ?_
                      refine jc_ret ?_
                      refine jq_then_ret ?_
                      refine jq_ret1 rfl rfl ?_
                      exact fun _ hw => ⟨rfl, (hallk.next hw (by repeat first | exact ⟨_, mem0, rfl⟩ | exact ⟨_, mem1, rfl⟩ | exact ⟨_, mem2, rfl⟩ | refine List.forall_mem_cons.2 ⟨?_, ?_⟩ | exact fun _ h => absurd h List.not_mem_nil)).ch⟩
                      )
                  · first
                    | (exfalso; omega)
                    | (
                      refine jl_y rfl (by decide) rfl (y_pick_false rfl rfl) ?_
                      refine jl_y rfl (by decide) rfl (y_move rfl) ?_
                      refine jl_y rfl (by decide) rfl (y_move rfl) ?_
                      refine jl_pcall rfl (by decide) rfl (goes_func rfl) (fun w1 hw1 => pcall hw1 (kroot_any _ bk.1 bk.2 (cutS seed 100) m w1 (hkk.keep hw1))) ?_
                      refine jl_y rfl (by decide) rfl (y_move rfl) ?_
                      refine jl_y rfl (by decide) rfl (y_sneq rfl rfl) ?_
                      refine jl_as (u := .bool false) (congrArg (fun b => Value.bool (!b)) (decide_eq_true (rfl))) ?_
                      refine jl_y rfl (by decide) rfl (y_pick_false rfl rfl) ?_
                      refine jl_y rfl (by decide) rfl (y_move rfl) ?_
                      refine jl_y rfl (by decide) rfl (y_move rfl) ?_
                      first | refine jl_y rfl (by decide) rfl (y_nilCheck rfl) ?_ | refine jl_y rfl (by decide) rfl (y_nilCheck_func rfl) ?_
                      refine jl_y rfl (by decide) rfl (y_fieldAddr rfl) ?_
                      refine jl_y rfl (by decide) rfl (y_load_old rfl hkk.2.1 hkk.1) ?_
                      refine jl_pcall rfl (by decide) rfl (goes_func rfl) (fun w1 hw1 => pcall hw1 (cnext_any bk.2 ((0 : Nat) : Int) w1 (CellAt.of_cells (hw1.get (A := .cells bk.2 [.int .i64 ((0 : Nat) : Int), .int .i64 ((2 ^ m : Nat) : Int)]) mem1) rfl))) ?_
                      refine jl_y rfl (by decide) rfl (y_neq rfl rfl) ?_
                      refine jl_prop (fun h76 => ?_) (fun h76 => ?_)
                      · first
                        | (exfalso; omega)
                        | (
                          refine jl_y rfl (by decide) rfl (y_pick_false rfl rfl) ?_
                          refine jl_nil ?_
                          refine jq_then ?_
                          refine jc_true rfl ?_
                          refine jc_seq ?_
                          -- region 11
                          refine jc_region ?_
                          refine jl_y rfl (by decide) rfl (y_assign rfl) ?_
                          refine jl_nil ?_
                          refine jq_then ?_
                          refine jc_ret ?_
                          refine jq_then_ret ?_
                          refine jq_ret1 rfl rfl ?_
                          exact fun _ hw => ⟨rfl, (hallk.next hw (by repeat first | exact ⟨_, mem0, rfl⟩ | exact ⟨_, mem1, rfl⟩ | exact ⟨_, mem2, rfl⟩ | refine List.forall_mem_cons.2 ⟨?_, ?_⟩ | exact fun _ h => absurd h List.not_mem_nil)).ch⟩
                          )
                      · first
                        | (exfalso; omega)
                        | (
                          refine jl_y rfl (by decide) rfl (y_pick_false rfl rfl) ?_
                          refine jl_nil ?_
                          refine jq_then ?_
                          refine jc_false rfl ?_
                          refine jc_skip ?_
                          refine jq_then ?_
                          refine jc_seq ?_
                          refine jc_seq ?_
                          -- region 12
                          refine jc_region ?_
                          refine jl_y rfl (by decide) rfl (y_assign rfl) ?_
                          refine jl_nil ?_
                          refine jq_then ?_
                          refine jc_block ?_
                          -- a loop
                          refine jc_loop2 (fun (i : Nat) (n : Nat) => [(0, .string (cutS seed 100)), (2, .slice ad ps.length c), (8, .pointer (some ⟨bk.1, 0, none⟩)), (10, .slice la (leavesS (cutS seed 100) m).length lc), (13, .int .i64 (i : Nat))]) (fun (i : Nat) (n : Nat) => fun w' => (i ≤ 5 ∧ ((n = i ∧ i ≤ 2 ^ m) ∨ (n = 2 ^ m ∧ 2 ^ m ≤ i))) ∧ Hp wk [bk.2] [.row (la) ((leavesS (cutS seed 100) m).length) (lc) 9 1 ((leavesS (cutS seed 100) m).map .string), .cells bk.2 [.int .i64 ((n : Nat) : Int), .int .i64 ((2 ^ m : Nat) : Int)]] w') (fun (i : Nat) (n : Nat) => 5 - i) 0 0 ?_ ?_ ?_
                          · exact ⟨rfl, rfl, rfl, rfl, rfl, trivial⟩
                          · exact fun _ h => ⟨by omega, h⟩
                          · intro i n
                            refine jc_and (fun hi2 => ?_)
                            obtain ⟨hi, hn⟩ := hi2
                            have hnn : 0 ≤ n := by omega
                            refine jc_seq ?_
                            refine jc_seq ?_
                            -- region 13
                            refine jc_region ?_
                            refine jl_y rfl (by decide) rfl (y_move rfl) ?_
                            refine jl_y rfl (by decide) rfl (y_move rfl) ?_
                            refine jl_y rfl (by decide) rfl (y_len_slice rfl) ?_
                            refine jl_y rfl (by decide) rfl (y_lss rfl rfl) ?_
                            refine jl_prop (fun h81 => ?_) (fun h81 => ?_)
                            · first
                              | (exfalso; omega)
                              | (
                                refine jl_y rfl (by decide) rfl (y_move rfl) ?_
                                refine jl_y rfl (by decide) rfl (y_move rfl) ?_
                                refine jl_y rfl (by decide) rfl (y_lss rfl rfl) ?_
                                refine jl_prop (fun h84 => ?_) (fun h84 => ?_)
                                · first
                                  | (exfalso; omega)
                                  | (
                                    obtain ⟨bb, oo, ea, hc⟩ := (hps.1 i _ (at0_some (show i < ps.length by omega)))
                                    have hbo := hps.2 bb oo ea (fun h0 => by have h1 : ps.length = 0 := (by rw [h0]; rfl); omega)
                                    subst ea
                                    have hcm := cutS_size (at0 ps i) 100
                                    refine jl_y rfl (by decide) rfl (y_pick_true rfl rfl) ?_
                                    refine jl_nil ?_
                                    refine jq_then ?_
                                    refine jc_true rfl ?_
                                    refine jc_skip ?_
                                    refine jq_then ?_
                                    refine jc_seq ?_
                                    refine jc_block ?_
                                    refine jc_seq ?_
                                    -- region 15
                                    refine jc_draw (by kernel_rfl) (fun _ h => h.drew) ?_
                                    refine ju_y rfl (by decide) rfl (y_move rfl) ?_
                                    refine ju_y rfl (by decide) rfl (y_move rfl) ?_
                                    refine ju_y rfl (by decide) rfl (y_indexAddr_slice (off := oo + i) rfl rfl (by omega) (by omega) (by omega)) ?_
                                    refine ju_y rfl (by decide) rfl (y_load_old rfl hc hbo) ?_
                                    refine ju_y rfl (by decide) rfl (y_move rfl) ?_
                                    refine ju_y rfl (by decide) rfl (y_move rfl) ?_
                                    refine ju_y rfl (by decide) rfl (y_indexAddr_slice (off := oo + i) rfl rfl (by omega) (by omega) (by omega)) ?_
                                    refine ju_y rfl (by decide) rfl (y_load_old rfl hc hbo) ?_
                                    refine ju_y rfl (by decide) rfl (y_len_str rfl) ?_
                                    refine ju_y rfl (by decide) rfl (y_min rfl rfl) ?_
                                    refine ju_y rfl (by decide) rfl (y_substr_hi rfl rfl (by omega) (by omega)) ?_
                                    refine ju_as (congrArg Value.string (cut_eq _ 100)) ?_
                                    refine ju_y rfl (by decide) rfl (y_assign rfl) ?_
                                    refine ju_nil ?_
                                    refine jq_then ?_
                                    refine jc_seq ?_
                                    -- region 16
                                    refine jc_region ?_
                                    refine jl_y rfl (by decide) rfl (y_move rfl) ?_
                                    refine jl_y rfl (by decide) rfl (y_move rfl) ?_
                                    refine jl_ucallH rfl (by decide) rfl (goes_func rfl) (by rfl) (fun w1 hw1 => ksign_all [bk.2] bk.1 bk.2 ((cutS seed 100)) (m) w1 (hkk.keep hw1) (by simp) (by omega) (by omega) (cutS (at0 ps i) 100) (by first | decide | omega) (n) (hw1.get mem1)) (by first | exact rep0 | exact rep1 | exact rep2 | exact rep3 | exact rep4) ?_
                                    refine jl_y rfl (by decide) rfl (y_move rfl) ?_
                                    refine jl_y rfl (by decide) rfl (y_extract rfl rfl) ?_
                                    refine jl_y rfl (by decide) rfl (y_extract rfl rfl) ?_
                                    refine jl_y rfl (by decide) rfl (y_assign rfl) ?_
                                    refine jl_y rfl (by decide) rfl (y_assign rfl) ?_
                                    refine jl_nil ?_
                                    refine jq_then ?_
                                    refine jc_seq ?_
                                    refine jc_seq ?_
                                    -- region 17
                                    refine jc_region ?_
                                    refine jl_y rfl (by decide) rfl (y_move rfl) ?_
                                    refine jl_y rfl (by decide) rfl (y_move rfl) ?_
                                    refine jl_y rfl (by decide) rfl (y_len_slice rfl) ?_
                                    refine jl_y rfl (by decide) rfl (y_geq rfl rfl) ?_
                                    refine jl_prop (fun h108 => ?_) (fun h108 => ?_)
                                    · first
                                      | (exfalso; omega)
                                      | (
                                        have hsb := @sg_bad (cutS seed 100) m n (cutS (at0 ps i) 100) (by omega)
                                        have hs2 := hsb.2.1
                                        have hs3 := hsb.2.2
                                        refine jl_nil ?_
                                        refine jq_then ?_
                                        refine jc_true rfl ?_
                                        refine jc_seq ?_
                                        refine jc_seq ?_
                                        -- region 18
                                        refine jc_region ?_
                                        refine jl_y rfl (by decide) rfl (y_move rfl) ?_
                                        refine jl_y rfl (by decide) rfl (y_sneq rfl rfl) ?_
                                        refine jl_as (u := .bool false) (congrArg (fun b => Value.bool (!b)) (decide_eq_true (hsb.1))) ?_
                                        refine jl_y rfl (by decide) rfl (y_move rfl) ?_
                                        refine jl_y rfl (by decide) rfl (y_move rfl) ?_
                                        refine jl_y rfl (by decide) rfl (y_neq rfl rfl) ?_
                                        refine jl_prop (fun h113 => ?_) (fun h113 => ?_)
                                        · first
                                          | (exfalso; omega)
                                          | (
                                            refine jl_y rfl (by decide) rfl (y_pick_false rfl rfl) ?_
                                            refine jl_y rfl (by decide) rfl (y_move rfl) ?_
                                            refine jl_skip rfl (by decide) rfl ?_
                                            refine jl_skip rfl (by decide) rfl ?_
                                            refine jl_skip rfl (by decide) rfl ?_
                                            refine jl_skip rfl (by decide) rfl ?_
                                            refine jl_skip rfl (by decide) rfl ?_
                                            refine jl_skip rfl (by decide) rfl ?_
                                            refine jl_y rfl (by decide) rfl (y_pick_true rfl rfl) ?_
                                            refine jl_nil ?_
                                            refine jq_then ?_
                                            refine jc_true rfl ?_
                                            refine jc_seq ?_
                                            -- region 19
                                            refine jc_region ?_
                                            refine jl_y rfl (by decide) rfl (y_assign rfl) ?_
                                            refine jl_nil ?_
                                            refine jq_then ?_
                                            refine jc_ret ?_
                                            refine jq_then_ret ?_
                                            refine jq_then_ret ?_
                                            refine jq_block_ret ?_
                                            refine jq_then_ret ?_
                                            refine jq_then_ret ?_
                                            refine jq_block_ret ?_
                                            refine jq_then_ret ?_
                                            refine jq_ret1 rfl rfl ?_
                                            exact fun _ hw => ⟨rfl, (hallk.next hw (by repeat first | exact ⟨_, mem0, rfl⟩ | exact ⟨_, mem1, rfl⟩ | exact ⟨_, mem2, rfl⟩ | refine List.forall_mem_cons.2 ⟨?_, ?_⟩ | exact fun _ h => absurd h List.not_mem_nil)).ch⟩
                                            )
                                        · first
                                          | (exfalso; omega)
                                          | (
                                            refine jl_y rfl (by decide) rfl (y_pick_false rfl rfl) ?_
                                            refine jl_y rfl (by decide) rfl (y_move rfl) ?_
                                            refine jl_y rfl (by decide) rfl (y_move rfl) ?_
                                            first | refine jl_y rfl (by decide) rfl (y_nilCheck rfl) ?_ | refine jl_y rfl (by decide) rfl (y_nilCheck_func rfl) ?_
                                            refine jl_y rfl (by decide) rfl (y_fieldAddr rfl) ?_
                                            refine jl_y rfl (by decide) rfl (y_load_old rfl hkk.2.1 hkk.1) ?_
                                            refine jl_pcall rfl (by decide) rfl (goes_func rfl) (fun w1 hw1 => pcall hw1 (cleft_any bk.2 ((sgN m n : Nat) : Int) ((2 ^ m : Nat) : Int) w1 (CellAt.of_cells (hw1.get (A := .cells bk.2 [.int .i64 ((sgN m n : Nat) : Int), .int .i64 ((2 ^ m : Nat) : Int)]) mem1) rfl) (CellAt.of_cells (hw1.get (A := .cells bk.2 [.int .i64 ((sgN m n : Nat) : Int), .int .i64 ((2 ^ m : Nat) : Int)]) mem1) rfl) (by omega) (by omega) (by omega))) ?_
                                            refine jl_y rfl (by decide) rfl (y_neq rfl rfl) ?_
                                            refine jl_prop (fun h121 => ?_) (fun h121 => ?_)
                                            · first
                                              | (exfalso; omega)
                                              | (
                                                refine jl_y rfl (by decide) rfl (y_pick_false rfl rfl) ?_
                                                refine jl_nil ?_
                                                refine jq_then ?_
                                                refine jc_true rfl ?_
                                                refine jc_seq ?_
                                                -- region 19
                                                refine jc_region ?_
                                                refine jl_y rfl (by decide) rfl (y_assign rfl) ?_
                                                refine jl_nil ?_
                                                refine jq_then ?_
                                                refine jc_ret ?_
                                                refine jq_then_ret ?_
                                                refine jq_then_ret ?_
                                                refine jq_block_ret ?_
                                                refine jq_then_ret ?_
                                                refine jq_then_ret ?_
                                                refine jq_block_ret ?_
                                                refine jq_then_ret ?_
                                                refine jq_ret1 rfl rfl ?_
                                                exact fun _ hw => ⟨rfl, (hallk.next hw (by repeat first | exact ⟨_, mem0, rfl⟩ | exact ⟨_, mem1, rfl⟩ | exact ⟨_, mem2, rfl⟩ | refine List.forall_mem_cons.2 ⟨?_, ?_⟩ | exact fun _ h => absurd h List.not_mem_nil)).ch⟩
                                                )
                                            · first
                                              | (exfalso; omega)
                                              | (
                                                refine jl_y rfl (by decide) rfl (y_pick_false rfl rfl) ?_
                                                refine jl_nil ?_
                                                refine jq_then ?_
                                                refine jc_false rfl ?_
                                                refine jc_skip ?_
                                                refine jq_then ?_
                                                refine jc_exit ?_
                                                refine jq_then_exit ?_
                                                refine jq_hit ?_
                                                refine jq_then ?_
                                                -- region 14
                                                refine jc_region ?_
                                                refine jl_y rfl (by decide) rfl (y_move rfl) ?_
                                                refine jl_y rfl (by decide) rfl (y_add_fits rfl rfl (by simp only [fits]; omega)) ?_
                                                refine jl_y rfl (by decide) rfl (y_assign rfl) ?_
                                                refine jl_nil ?_
                                                refine jq_round2 (i := i) (j := n) (i + 1) (sgN m n) ?_ ?_ ?_
                                                · omega
                                                · exact ⟨rfl, rfl, rfl, rfl, lk_int rfl (by omega), trivial⟩
                                                · exact fun _ h => ⟨by omega, h⟩
                                                )
                                            )
                                        )
                                    · first
                                      | (exfalso; omega)
                                      | (
                                        have hni : n = i := by omega
                                        have hsb := @sg_ok (cutS seed 100) m n (cutS (at0 ps i) 100) (by omega)
                                        have hs2 := hsb.2.1
                                        have hs3 := hsb.2.2
                                        refine jl_nil ?_
                                        refine jq_then ?_
                                        refine jc_false rfl ?_
                                        refine jc_skip ?_
                                        refine jq_then ?_
                                        refine jc_seq ?_
                                        -- region 20
                                        refine jc_region ?_
                                        refine jl_y rfl (by decide) rfl (y_move rfl) ?_
                                        refine jl_y rfl (by decide) rfl (y_move rfl) ?_
                                        refine jl_y rfl (by decide) rfl (y_move rfl) ?_
                                        refine jl_y rfl (by decide) rfl (y_move rfl) ?_
                                        refine jl_y rfl (by decide) rfl (y_move rfl) ?_
                                        refine jl_pcall rfl (by decide) rfl (goes_func rfl) (fun w1 hw1 => pcall hw1 (rksign_any (cutS seed 100) m la lc i (cutS (at0 ps i) 100) w1 (by omega) (by omega) (by omega) (by omega) (Strs.of_own (hw1.get mem0)))) ?_
                                        refine jl_y rfl (by decide) rfl (y_sneq rfl rfl) ?_
                                        refine jl_as (u := .bool false) (congrArg (fun b => Value.bool (!b)) (decide_eq_true (by rw [hsb.1, hni]))) ?_
                                        refine jl_y rfl (by decide) rfl (y_move rfl) ?_
                                        refine jl_y rfl (by decide) rfl (y_move rfl) ?_
                                        refine jl_y rfl (by decide) rfl (y_neq rfl rfl) ?_
                                        refine jl_prop (fun h132 => ?_) (fun h132 => ?_)
                                        · first
                                          | (exfalso; omega)
                                          | (
                                            refine jl_y rfl (by decide) rfl (y_pick_false rfl rfl) ?_
                                            refine jl_y rfl (by decide) rfl (y_move rfl) ?_
                                            refine jl_skip rfl (by decide) rfl ?_
                                            refine jl_skip rfl (by decide) rfl ?_
                                            refine jl_skip rfl (by decide) rfl ?_
                                            refine jl_skip rfl (by decide) rfl ?_
                                            refine jl_skip rfl (by decide) rfl ?_
                                            refine jl_skip rfl (by decide) rfl ?_
                                            refine jl_skip rfl (by decide) rfl ?_
                                            refine jl_skip rfl (by decide) rfl ?_
                                            refine jl_y rfl (by decide) rfl (y_pick_true rfl rfl) ?_
                                            refine jl_y rfl (by decide) rfl (y_move rfl) ?_
                                            refine jl_skip rfl (by decide) rfl ?_
                                            refine jl_skip rfl (by decide) rfl ?_
                                            refine jl_skip rfl (by decide) rfl ?_
                                            refine jl_skip rfl (by decide) rfl ?_
                                            refine jl_skip rfl (by decide) rfl ?_
                                            refine jl_skip rfl (by decide) rfl ?_
                                            refine jl_skip rfl (by decide) rfl ?_
                                            refine jl_skip rfl (by decide) rfl ?_
                                            refine jl_skip rfl (by decide) rfl ?_
                                            refine jl_skip rfl (by decide) rfl ?_
                                            refine jl_skip rfl (by decide) rfl ?_
                                            refine jl_y rfl (by decide) rfl (y_pick_true rfl rfl) ?_
                                            refine jl_nil ?_
                                            refine jq_then ?_
                                            refine jc_true rfl ?_
                                            refine jc_seq ?_
                                            -- region 21
                                            refine jc_region ?_
                                            refine jl_y rfl (by decide) rfl (y_assign rfl) ?_
                                            refine jl_nil ?_
                                            refine jq_then ?_
                                            refine jc_ret ?_
                                            refine jq_block_ret ?_
                                            refine jq_then_ret ?_
                                            refine jq_then_ret ?_
                                            refine jq_block_ret ?_
                                            refine jq_then_ret ?_
                                            refine jq_ret1 rfl rfl ?_
                                            exact fun _ hw => ⟨rfl, (hallk.next hw (by repeat first | exact ⟨_, mem0, rfl⟩ | exact ⟨_, mem1, rfl⟩ | exact ⟨_, mem2, rfl⟩ | refine List.forall_mem_cons.2 ⟨?_, ?_⟩ | exact fun _ h => absurd h List.not_mem_nil)).ch⟩
                                            )
                                        · first
                                          | (exfalso; omega)
                                          | (
                                            refine jl_y rfl (by decide) rfl (y_pick_false rfl rfl) ?_
                                            refine jl_y rfl (by decide) rfl (y_move rfl) ?_
                                            refine jl_y rfl (by decide) rfl (y_move rfl) ?_
                                            first | refine jl_y rfl (by decide) rfl (y_nilCheck rfl) ?_ | refine jl_y rfl (by decide) rfl (y_nilCheck_func rfl) ?_
                                            refine jl_y rfl (by decide) rfl (y_fieldAddr rfl) ?_
                                            refine jl_y rfl (by decide) rfl (y_load_old rfl hkk.2.1 hkk.1) ?_
                                            refine jl_pcall rfl (by decide) rfl (goes_func rfl) (fun w1 hw1 => pcall hw1 (cnext_any bk.2 ((sgN m n : Nat) : Int) w1 (CellAt.of_cells (hw1.get (A := .cells bk.2 [.int .i64 ((sgN m n : Nat) : Int), .int .i64 ((2 ^ m : Nat) : Int)]) mem1) rfl))) ?_
                                            refine jl_y rfl (by decide) rfl (y_move rfl) ?_
                                            refine jl_y rfl (by decide) rfl (y_add_fits rfl rfl (by simp only [fits]; omega)) ?_
                                            refine jl_y rfl (by decide) rfl (y_neq rfl rfl) ?_
                                            refine jl_prop (fun h142 => ?_) (fun h142 => ?_)
                                            · first
                                              | (exfalso; omega)
                                              | (
                                                refine jl_y rfl (by decide) rfl (y_pick_false rfl rfl) ?_
                                                refine jl_y rfl (by decide) rfl (y_move rfl) ?_
                                                refine jl_skip rfl (by decide) rfl ?_
                                                refine jl_skip rfl (by decide) rfl ?_
                                                refine jl_skip rfl (by decide) rfl ?_
                                                refine jl_skip rfl (by decide) rfl ?_
                                                refine jl_skip rfl (by decide) rfl ?_
                                                refine jl_skip rfl (by decide) rfl ?_
                                                refine jl_skip rfl (by decide) rfl ?_
                                                refine jl_skip rfl (by decide) rfl ?_
                                                refine jl_skip rfl (by decide) rfl ?_
                                                refine jl_skip rfl (by decide) rfl ?_
                                                refine jl_skip rfl (by decide) rfl ?_
                                                refine jl_y rfl (by decide) rfl (y_pick_true rfl rfl) ?_
                                                refine jl_nil ?_
                                                refine jq_then ?_
                                                refine jc_true rfl ?_
                                                refine jc_seq ?_
                                                -- region 21
                                                refine jc_region ?_
                                                refine jl_y rfl (by decide) rfl (y_assign rfl) ?_
                                                refine jl_nil ?_
                                                refine jq_then ?_
                                                refine jc_ret ?_
                                                refine jq_block_ret ?_
                                                refine jq_then_ret ?_
                                                refine jq_then_ret ?_
                                                refine jq_block_ret ?_
                                                refine jq_then_ret ?_
                                                refine jq_ret1 rfl rfl ?_
                                                exact fun _ hw => ⟨rfl, (hallk.next hw (by repeat first | exact ⟨_, mem0, rfl⟩ | exact ⟨_, mem1, rfl⟩ | exact ⟨_, mem2, rfl⟩ | refine List.forall_mem_cons.2 ⟨?_, ?_⟩ | exact fun _ h => absurd h List.not_mem_nil)).ch⟩
                                                )
                                            · first
                                              | (exfalso; omega)
                                              | (
                                                refine jl_y rfl (by decide) rfl (y_pick_false rfl rfl) ?_
                                                refine jl_y rfl (by decide) rfl (y_move rfl) ?_
                                                refine jl_y rfl (by decide) rfl (y_move rfl) ?_
                                                first | refine jl_y rfl (by decide) rfl (y_nilCheck rfl) ?_ | refine jl_y rfl (by decide) rfl (y_nilCheck_func rfl) ?_
                                                refine jl_y rfl (by decide) rfl (y_fieldAddr rfl) ?_
                                                refine jl_y rfl (by decide) rfl (y_load_old rfl hkk.2.1 hkk.1) ?_
                                                refine jl_pcall rfl (by decide) rfl (goes_func rfl) (fun w1 hw1 => pcall hw1 (cleft_any bk.2 ((sgN m n : Nat) : Int) ((2 ^ m : Nat) : Int) w1 (CellAt.of_cells (hw1.get (A := .cells bk.2 [.int .i64 ((sgN m n : Nat) : Int), .int .i64 ((2 ^ m : Nat) : Int)]) mem1) rfl) (CellAt.of_cells (hw1.get (A := .cells bk.2 [.int .i64 ((sgN m n : Nat) : Int), .int .i64 ((2 ^ m : Nat) : Int)]) mem1) rfl) (by omega) (by omega) (by omega))) ?_
                                                refine jl_y rfl (by decide) rfl (y_move rfl) ?_
                                                refine jl_y rfl (by decide) rfl (y_len_slice rfl) ?_
                                                refine jl_y rfl (by decide) rfl (y_move rfl) ?_
                                                refine jl_y rfl (by decide) rfl (y_sub_fits rfl rfl (by simp only [fits]; omega)) ?_
                                                refine jl_y rfl (by decide) rfl (y_sub_fits rfl rfl (by simp only [fits]; omega)) ?_
                                                refine jl_y rfl (by decide) rfl (y_neq rfl rfl) ?_
                                                refine jl_prop (fun h155 => ?_) (fun h155 => ?_)
                                                · first
                                                  | (exfalso; omega)
                                                  | (
                                                    refine jl_y rfl (by decide) rfl (y_pick_false rfl rfl) ?_
                                                    refine jl_nil ?_
                                                    refine jq_then ?_
                                                    refine jc_true rfl ?_
                                                    refine jc_seq ?_
                                                    -- region 21
                                                    refine jc_region ?_
                                                    refine jl_y rfl (by decide) rfl (y_assign rfl) ?_
                                                    refine jl_nil ?_
                                                    refine jq_then ?_
                                                    refine jc_ret ?_
                                                    refine jq_block_ret ?_
                                                    refine jq_then_ret ?_
                                                    refine jq_then_ret ?_
                                                    refine jq_block_ret ?_
                                                    refine jq_then_ret ?_
                                                    refine jq_ret1 rfl rfl ?_
                                                    exact fun _ hw => ⟨rfl, (hallk.next hw (by repeat first | exact ⟨_, mem0, rfl⟩ | exact ⟨_, mem1, rfl⟩ | exact ⟨_, mem2, rfl⟩ | refine List.forall_mem_cons.2 ⟨?_, ?_⟩ | exact fun _ h => absurd h List.not_mem_nil)).ch⟩
                                                    )
                                                · first
                                                  | (exfalso; omega)
                                                  | (
                                                    refine jl_y rfl (by decide) rfl (y_pick_false rfl rfl) ?_
                                                    refine jl_nil ?_
                                                    refine jq_then ?_
                                                    refine jc_false rfl ?_
                                                    refine jc_skip ?_
                                                    refine jq_block ?_
                                                    refine jq_then ?_
                                                    -- region 14
                                                    refine jc_region ?_
                                                    refine jl_y rfl (by decide) rfl (y_move rfl) ?_
                                                    refine jl_y rfl (by decide) rfl (y_add_fits rfl rfl (by simp only [fits]; omega)) ?_
                                                    refine jl_y rfl (by decide) rfl (y_assign rfl) ?_
                                                    refine jl_nil ?_
                                                    refine jq_round2 (i := i) (j := n) (i + 1) (sgN m n) ?_ ?_ ?_
                                                    · omega
                                                    · exact ⟨rfl, rfl, rfl, rfl, lk_int rfl (by omega), trivial⟩
                                                    · exact fun _ h => ⟨by omega, h⟩
                                                    )
                                                )
                                            )
                                        )
                                    )
                                · first
                                  | (exfalso; omega)
                                  | (
                                    refine jl_y rfl (by decide) rfl (y_pick_true rfl rfl) ?_
                                    refine jl_nil ?_
                                    refine jq_then ?_
                                    refine jc_false rfl ?_
                                    refine jc_exit ?_
                                    refine jq_then_exit ?_
                                    refine jq_then_exit ?_
                                    refine jq_hit ?_
                                    refine jq_then ?_
                                    refine jc_seq ?_
                                    -- region 22
                                    refine jc_region ?_
                                    refine jl_pcall rfl (by decide) rfl (goes_func rfl) (fun w1 hw1 => pcall hw1 (fixed7_any w1)) ?_
                                    refine jl_y rfl (by decide) rfl (y_assign rfl) ?_
                                    refine jl_nil ?_
                                    refine jq_then ?_
                                    refine jc_ret ?_
                                    refine jq_ret1 rfl rfl ?_
                                    exact fun _ hw => ⟨rfl, (hallk.next hw (by repeat first | exact ⟨_, mem0, rfl⟩ | exact ⟨_, mem1, rfl⟩ | exact ⟨_, mem2, rfl⟩ | refine List.forall_mem_cons.2 ⟨?_, ?_⟩ | exact fun _ h => absurd h List.not_mem_nil)).ch⟩
                                    )
                                )
                            · first
                              | (exfalso; omega)
                              | (
                                refine jl_y rfl (by decide) rfl (y_move rfl) ?_
                                refine jl_skip rfl (by decide) rfl ?_
                                refine jl_skip rfl (by decide) rfl ?_
                                refine jl_y rfl (by decide) rfl (y_pick_false rfl rfl) ?_
                                refine jl_nil ?_
                                refine jq_then ?_
                                refine jc_false rfl ?_
                                refine jc_exit ?_
                                refine jq_then_exit ?_
                                refine jq_then_exit ?_
                                refine jq_hit ?_
                                refine jq_then ?_
                                refine jc_seq ?_
                                -- region 22
                                refine jc_region ?_
                                refine jl_pcall rfl (by decide) rfl (goes_func rfl) (fun w1 hw1 => pcall hw1 (fixed7_any w1)) ?_
                                refine jl_y rfl (by decide) rfl (y_assign rfl) ?_
                                refine jl_nil ?_
                                refine jq_then ?_
                                refine jc_ret ?_
                                refine jq_ret1 rfl rfl ?_
                                exact fun _ hw => ⟨rfl, (hallk.next hw (by repeat first | exact ⟨_, mem0, rfl⟩ | exact ⟨_, mem1, rfl⟩ | exact ⟨_, mem2, rfl⟩ | refine List.forall_mem_cons.2 ⟨?_, ?_⟩ | exact fun _ h => absurd h List.not_mem_nil)).ch⟩
                                )
                          )
                      )
                  )
              )
          )
      )
  · first
    | (exfalso; omega)
    | (
      refine jl_y rfl (by decide) rfl (y_move rfl) ?_
      refine jl_skip rfl (by decide) rfl ?_
      refine jl_skip rfl (by decide) rfl ?_
      refine jl_y rfl (by decide) rfl (y_pick_false rfl rfl) ?_
      refine jl_nil ?_
      refine jq_then ?_
      refine jc_false rfl ?_
      refine jc_skip ?_
      refine jq_then ?_
      refine jc_seq ?_
      -- region 5
      refine jc_region ?_
      refine jl_y rfl (by decide) rfl (y_move rfl) ?_
      refine jl_y rfl (by decide) rfl (y_move rfl) ?_
      refine jl_as (u := .int .i64 ((m : Nat) : Int)) (congrArg (Value.int .i64) (by omega)) ?_
      refine jl_ncall rfl (by decide) rfl (goes_func rfl) (fun w1 hw1 => mnew_ok ((cutS seed 100)) (m) w1 (by omega) (by omega)) (fun _ => rfl) (by first | (intro A hA; cases hA; done) | intro A hA k hk; simp only [List.mem_cons, List.not_mem_nil, or_false] at hA; first | (rcases hA with rfl | rfl | rfl <;> (cases hk; simp)) | (rcases hA with rfl | rfl <;> (cases hk; simp)) | (subst hA; cases hk; simp)) (fun bk wpk wk hpk hnk hfk => ?_)
      have hallk := hnk.hp (hpk)
      replace hps := hps.grow hpk hnk rfl
      have hkk := hfk [] (hpk.feet_lt (by intro k hk; first | (cases hk; done) | (simp only [List.mem_cons, List.not_mem_nil, or_false] at hk; subst hk; exact ⟨_, mem0, rfl⟩)))
      refine jl_y rfl (by decide) rfl (y_move rfl) ?_
      refine jl_y rfl (by decide) rfl (y_extract rfl rfl) ?_
      refine jl_y rfl (by decide) rfl (y_extract rfl rfl) ?_
      refine jl_y rfl (by decide) rfl (y_assign rfl) ?_
      refine jl_y rfl (by decide) rfl (y_assign rfl) ?_
      refine jl_nil ?_
      refine jq_then ?_
      refine jc_seq ?_
      refine jc_seq ?_
      -- region 6
      refine jc_region ?_
      refine jl_y rfl (by decide) rfl (y_move rfl) ?_
      refine jl_as (u := .int .i64 ((m : Nat) : Int)) (congrArg (Value.int .i64) (by omega)) ?_
      refine jl_y rfl (by decide) rfl (y_lss rfl rfl) ?_
      refine jl_prop (fun h36 => ?_) (fun h36 => ?_)
      · first
        | (exfalso; omega)
        | (
          refine jl_y rfl (by decide) rfl (y_move rfl) ?_
          refine jl_skip rfl (by decide) rfl ?_
          refine jl_skip rfl (by decide) rfl ?_
          refine jl_y rfl (by decide) rfl (y_pick_true rfl rfl) ?_
          refine jl_nil ?_
          refine jq_then ?_
          refine jc_true rfl ?_
          refine jc_seq ?_
          -- region 7
          refine jc_region ?_
          refine jl_y rfl (by decide) rfl (y_move rfl) ?_
          refine jl_y rfl (by decide) rfl (y_eql_nil rfl rfl) ?_
          refine jl_as (u := .bool false) rfl ?_
          refine jl_y rfl (by decide) rfl (y_move rfl) ?_
          refine jl_skip rfl (by decide) rfl ?_
          refine jl_skip rfl (by decide) rfl ?_
          refine jl_y rfl (by decide) rfl (y_pick_false rfl rfl) ?_
          refine jl_y rfl (by decide) rfl (y_move rfl) ?_
          refine jl_skip rfl (by decide) rfl ?_
          refine jl_y rfl (by decide) rfl (y_pick_false rfl rfl) ?_
          refine jl_y rfl (by decide) rfl (y_assign rfl) ?_
          refine jl_nil ?_
          refine jq_then ?_
          refine jc_ret ?_
          refine jq_then_ret ?_
          refine jq_ret1 rfl rfl ?_
          exact fun _ hw => ⟨rfl, (hallk.next hw (by repeat first | exact ⟨_, mem0, rfl⟩ | exact ⟨_, mem1, rfl⟩ | exact ⟨_, mem2, rfl⟩ | refine List.forall_mem_cons.2 ⟨?_, ?_⟩ | exact fun _ h => absurd h List.not_mem_nil)).ch⟩
          )
      · first
        | (exfalso; omega)
        | (
          refine jl_y rfl (by decide) rfl (y_move rfl) ?_
          refine jl_y rfl (by decide) rfl (y_move rfl) ?_
          refine jl_as (u := .int .i64 ((m : Nat) : Int)) (congrArg (Value.int .i64) (by omega)) ?_
          refine jl_y rfl (by decide) rfl (y_gtr rfl rfl) ?_
          refine jl_prop (fun h39 => ?_) (fun h39 => ?_)
          · first
            | (exfalso; omega)
            | (
              refine jl_y rfl (by decide) rfl (y_pick_false rfl rfl) ?_
              refine jl_nil ?_
              refine jq_then ?_
              refine jc_true rfl ?_
              refine jc_seq ?_
              -- region 7
              refine jc_region ?_
              refine jl_y rfl (by decide) rfl (y_move rfl) ?_
              refine jl_y rfl (by decide) rfl (y_eql_nil rfl rfl) ?_
              refine jl_as (u := .bool false) rfl ?_
              refine jl_y rfl (by decide) rfl (y_move rfl) ?_
              refine jl_skip rfl (by decide) rfl ?_
              refine jl_skip rfl (by decide) rfl ?_
              refine jl_y rfl (by decide) rfl (y_pick_false rfl rfl) ?_
              refine jl_y rfl (by decide) rfl (y_move rfl) ?_
              refine jl_skip rfl (by decide) rfl ?_
              refine jl_y rfl (by decide) rfl (y_pick_false rfl rfl) ?_
              refine jl_y rfl (by decide) rfl (y_assign rfl) ?_
              refine jl_nil ?_
              refine jq_then ?_
              refine jc_ret ?_
              refine jq_then_ret ?_
              refine jq_ret1 rfl rfl ?_
              exact fun _ hw => ⟨rfl, (hallk.next hw (by repeat first | exact ⟨_, mem0, rfl⟩ | exact ⟨_, mem1, rfl⟩ | exact ⟨_, mem2, rfl⟩ | refine List.forall_mem_cons.2 ⟨?_, ?_⟩ | exact fun _ h => absurd h List.not_mem_nil)).ch⟩
              )
          · first
            | (exfalso; omega)
            | (
              refine jl_y rfl (by decide) rfl (y_pick_false rfl rfl) ?_
              refine jl_nil ?_
              refine jq_then ?_
              refine jc_false rfl ?_
              refine jc_skip ?_
              refine jq_then ?_
              refine jc_seq ?_
              -- region 8
              refine jc_region ?_
              refine jl_y rfl (by decide) rfl (y_move rfl) ?_
              refine jl_y rfl (by decide) rfl (y_move rfl) ?_
              refine jl_as (u := .int .i64 ((m : Nat) : Int)) (congrArg (Value.int .i64) (by omega)) ?_
              refine jl_fcall rfl (by decide) rfl (goes_func rfl) (fun w1 hw1 => rleaves_any (cutS seed 100) m w1 (by omega) (by omega)) (fun ⟨la, lc⟩ => ?_)
              refine jl_y rfl (by decide) rfl (y_assign rfl) ?_
              refine jl_nil ?_
              refine jq_then ?_
              refine jc_seq ?_
              -- region 9
              refine jc_region ?_
              refine jl_y rfl (by decide) rfl (y_move rfl) ?_
              refine jl_pcall rfl (by decide) rfl (goes_func rfl) (fun w1 hw1 => pcall hw1 (rroot_any _ _ (leavesS (cutS seed 100) m) w1 (by omega) (Strs.of_own (hw1.get mem0)))) ?_
              refine jl_y rfl (by decide) rfl (y_move rfl) ?_
              refine jl_y rfl (by decide) rfl (y_extract rfl rfl) ?_
              refine jl_as (u := .string (rootK (cutS seed 100) m)) rfl ?_
              refine jl_y rfl (by decide) rfl (y_extract rfl rfl) ?_
              refine jl_y rfl (by decide) rfl (y_assign rfl) ?_
              refine jl_y rfl (by decide) rfl (y_assign rfl) ?_
              refine jl_nil ?_
              refine jq_then ?_
              refine jc_seq ?_
              refine jc_seq ?_
              -- region 10
              refine jc_region ?_
              refine jl_y rfl (by decide) rfl (y_move rfl) ?_
              refine jl_y rfl (by decide) rfl (y_eql_nil rfl rfl) ?_
              refine jl_as (u := .bool false) rfl ?_
              refine jl_y rfl (by decide) rfl (y_move rfl) ?_
              refine jl_y rfl (by decide) rfl (y_move rfl) ?_
              refine jl_y rfl (by decide) rfl (y_neq rfl rfl) ?_
              refine jl_prop (fun h62 => ?_) (fun h62 => ?_)
              · first
                | (exfalso; omega)
                | (
                  refine jl_y rfl (by decide) rfl (y_pick_false rfl rfl) ?_
                  refine jl_y rfl (by decide) rfl (y_move rfl) ?_
                  refine jl_skip rfl (by decide) rfl ?_
                  refine jl_skip rfl (by decide) rfl ?_
                  refine jl_skip rfl (by decide) rfl ?_
                  refine jl_skip rfl (by decide) rfl ?_
                  refine jl_y rfl (by decide) rfl (y_pick_true rfl rfl) ?_
                  refine jl_y rfl (by decide) rfl (y_move rfl) ?_
                  refine jl_skip rfl (by decide) rfl ?_
                  refine jl_skip rfl (by decide) rfl ?_
                  refine jl_skip rfl (by decide) rfl ?_
                  refine jl_skip rfl (by decide) rfl ?_
                  refine jl_skip rfl (by decide) rfl ?_
                  refine jl_skip rfl (by decide) rfl ?_
                  refine jl_y rfl (by decide) rfl (y_pick_true rfl rfl) ?_
                  refine jl_nil ?_
                  refine jq_then ?_
                  refine jc_true rfl ?_
                  refine jc_seq ?_
                  -- region 11
                  refine jc_region ?_
                  refine jl_y rfl (by decide) rfl (y_assign rfl) ?_
                  refine jl_nil ?_
                  refine jq_then ?_
                  refine jc_ret ?_
                  refine jq_then_ret ?_
                  refine jq_ret1 rfl rfl ?_
                  exact fun _ hw => ⟨rfl, (hallk.next hw (by repeat first | exact ⟨_, mem0, rfl⟩ | exact ⟨_, mem1, rfl⟩ | exact ⟨_, mem2, rfl⟩ | refine List.forall_mem_cons.2 ⟨?_, ?_⟩ | exact fun _ h => absurd h List.not_mem_nil)).ch⟩
                  )
              · first
                | (exfalso; omega)
                | (
                  refine jl_y rfl (by decide) rfl (y_pick_false rfl rfl) ?_
                  refine jl_y rfl (by decide) rfl (y_move rfl) ?_
                  refine jl_y rfl (by decide) rfl (y_move rfl) ?_
                  refine jl_pcall rfl (by decide) rfl (goes_func rfl) (fun w1 hw1 => pcall hw1 (kroot_any _ bk.1 bk.2 (cutS seed 100) m w1 (hkk.keep hw1))) ?_
                  refine jl_y rfl (by decide) rfl (y_move rfl) ?_
                  refine jl_y rfl (by decide) rfl (y_sneq rfl rfl) ?_
                  refine jl_as (u := .bool false) (congrArg (fun b => Value.bool (!b)) (decide_eq_true (rfl))) ?_
                  refine jl_y rfl (by decide) rfl (y_pick_false rfl rfl) ?_
                  refine jl_y rfl (by decide) rfl (y_move rfl) ?_
                  refine jl_y rfl (by decide) rfl (y_move rfl) ?_
                  first | refine jl_y rfl (by decide) rfl (y_nilCheck rfl) ?_ | refine jl_y rfl (by decide) rfl (y_nilCheck_func rfl) ?_
                  refine jl_y rfl (by decide) rfl (y_fieldAddr rfl) ?_
                  refine jl_y rfl (by decide) rfl (y_load_old rfl hkk.2.1 hkk.1) ?_
                  refine jl_pcall rfl (by decide) rfl (goes_func rfl) (fun w1 hw1 => pcall hw1 (cnext_any bk.2 ((0 : Nat) : Int) w1 (CellAt.of_cells (hw1.get (A := .cells bk.2 [.int .i64 ((0 : Nat) : Int), .int .i64 ((2 ^ m : Nat) : Int)]) mem1) rfl))) ?_
                  refine jl_y rfl (by decide) rfl (y_neq rfl rfl) ?_
                  refine jl_prop (fun h76 => ?_) (fun h76 => ?_)
                  · first
                    | (exfalso; omega)
                    | (
                      refine jl_y rfl (by decide) rfl (y_pick_false rfl rfl) ?_
                      refine jl_nil ?_
                      refine jq_then ?_
                      refine jc_true rfl ?_
                      refine jc_seq ?_
                      -- region 11
                      refine jc_region ?_
                      refine jl_y rfl (by decide) rfl (y_assign rfl) ?_
                      refine jl_nil ?_
                      refine jq_then ?_
                      refine jc_ret ?_
                      refine jq_then_ret ?_
                      refine jq_ret1 rfl rfl ?_
                      exact fun _ hw => ⟨rfl, (hallk.next hw (by repeat first | exact ⟨_, mem0, rfl⟩ | exact ⟨_, mem1, rfl⟩ | exact ⟨_, mem2, rfl⟩ | refine List.forall_mem_cons.2 ⟨?_, ?_⟩ | exact fun _ h => absurd h List.not_mem_nil)).ch⟩
                      )
                  · first
                    | (exfalso; omega)
                    | (
                      refine jl_y rfl (by decide) rfl (y_pick_false rfl rfl) ?_
                      refine jl_nil ?_
                      refine jq_then ?_
                      refine jc_false rfl ?_
                      refine jc_skip ?_
                      refine jq_then ?_
                      refine jc_seq ?_
                      refine jc_seq ?_
                      -- region 12
                      refine jc_region ?_
                      refine jl_y rfl (by decide) rfl (y_assign rfl) ?_
                      refine jl_nil ?_
                      refine jq_then ?_
                      refine jc_block ?_
                      -- a loop
                      refine jc_loop2 (fun (i : Nat) (n : Nat) => [(0, .string (cutS seed 100)), (2, .slice ad ps.length c), (8, .pointer (some ⟨bk.1, 0, none⟩)), (10, .slice la (leavesS (cutS seed 100) m).length lc), (13, .int .i64 (i : Nat))]) (fun (i : Nat) (n : Nat) => fun w' => (i ≤ 5 ∧ ((n = i ∧ i ≤ 2 ^ m) ∨ (n = 2 ^ m ∧ 2 ^ m ≤ i))) ∧ Hp wk [bk.2] [.row (la) ((leavesS (cutS seed 100) m).length) (lc) 9 1 ((leavesS (cutS seed 100) m).map .string), .cells bk.2 [.int .i64 ((n : Nat) : Int), .int .i64 ((2 ^ m : Nat) : Int)]] w') (fun (i : Nat) (n : Nat) => 5 - i) 0 0 ?_ ?_ ?_
                      · exact ⟨rfl, rfl, rfl, rfl, rfl, trivial⟩
                      · exact fun _ h => ⟨by omega, h⟩
                      · intro i n
                        refine jc_and (fun hi2 => ?_)
                        obtain ⟨hi, hn⟩ := hi2
                        have hnn : 0 ≤ n := by omega
                        refine jc_seq ?_
                        refine jc_seq ?_
                        -- region 13
                        refine jc_region ?_
                        refine jl_y rfl (by decide) rfl (y_move rfl) ?_
                        refine jl_y rfl (by decide) rfl (y_move rfl) ?_
                        refine jl_y rfl (by decide) rfl (y_len_slice rfl) ?_
                        refine jl_y rfl (by decide) rfl (y_lss rfl rfl) ?_
                        refine jl_prop (fun h81 => ?_) (fun h81 => ?_)
                        · first
                          | (exfalso; omega)
                          | (
                            refine jl_y rfl (by decide) rfl (y_move rfl) ?_
                            refine jl_y rfl (by decide) rfl (y_move rfl) ?_
                            refine jl_y rfl (by decide) rfl (y_lss rfl rfl) ?_
                            refine jl_prop (fun h84 => ?_) (fun h84 => ?_)
                            · first
                              | (exfalso; omega)
                              | (
                                obtain ⟨bb, oo, ea, hc⟩ := (hps.1 i _ (at0_some (show i < ps.length by omega)))
                                have hbo := hps.2 bb oo ea (fun h0 => by have h1 : ps.length = 0 := (by rw [h0]; rfl); omega)
                                subst ea
                                have hcm := cutS_size (at0 ps i) 100
                                refine jl_y rfl (by decide) rfl (y_pick_true rfl rfl) ?_
                                refine jl_nil ?_
                                refine jq_then ?_
                                refine jc_true rfl ?_
                                refine jc_skip ?_
                                refine jq_then ?_
                                refine jc_seq ?_
                                refine jc_block ?_
                                refine jc_seq ?_
                                -- region 15
                                refine jc_draw (by kernel_rfl) (fun _ h => h.drew) ?_
                                refine ju_y rfl (by decide) rfl (y_move rfl) ?_
                                refine ju_y rfl (by decide) rfl (y_move rfl) ?_
                                refine ju_y rfl (by decide) rfl (y_indexAddr_slice (off := oo + i) rfl rfl (by omega) (by omega) (by omega)) ?_
                                refine ju_y rfl (by decide) rfl (y_load_old rfl hc hbo) ?_
                                refine ju_y rfl (by decide) rfl (y_move rfl) ?_
                                refine ju_y rfl (by decide) rfl (y_move rfl) ?_
                                refine ju_y rfl (by decide) rfl (y_indexAddr_slice (off := oo + i) rfl rfl (by omega) (by omega) (by omega)) ?_
                                refine ju_y rfl (by decide) rfl (y_load_old rfl hc hbo) ?_
                                refine ju_y rfl (by decide) rfl (y_len_str rfl) ?_
                                refine ju_y rfl (by decide) rfl (y_min rfl rfl) ?_
                                refine ju_y rfl (by decide) rfl (y_substr_hi rfl rfl (by omega) (by omega)) ?_
                                refine ju_as (congrArg Value.string (cut_eq _ 100)) ?_
                                refine ju_y rfl (by decide) rfl (y_assign rfl) ?_
                                refine ju_nil ?_
                                refine jq_then ?_
                                refine jc_seq ?_
                                -- region 16
                                refine jc_region ?_
                                refine jl_y rfl (by decide) rfl (y_move rfl) ?_
                                refine jl_y rfl (by decide) rfl (y_move rfl) ?_
                                refine jl_ucallH rfl (by decide) rfl (goes_func rfl) (by rfl) (fun w1 hw1 => ksign_all [bk.2] bk.1 bk.2 ((cutS seed 100)) (m) w1 (hkk.keep hw1) (by simp) (by omega) (by omega) (cutS (at0 ps i) 100) (by first | decide | omega) (n) (hw1.get mem1)) (by first | exact rep0 | exact rep1 | exact rep2 | exact rep3 | exact rep4) ?_
                                refine jl_y rfl (by decide) rfl (y_move rfl) ?_
                                refine jl_y rfl (by decide) rfl (y_extract rfl rfl) ?_
                                refine jl_y rfl (by decide) rfl (y_extract rfl rfl) ?_
                                refine jl_y rfl (by decide) rfl (y_assign rfl) ?_
                                refine jl_y rfl (by decide) rfl (y_assign rfl) ?_
                                refine jl_nil ?_
                                refine jq_then ?_
                                refine jc_seq ?_
                                refine jc_seq ?_
                                -- region 17
                                refine jc_region ?_
                                refine jl_y rfl (by decide) rfl (y_move rfl) ?_
                                refine jl_y rfl (by decide) rfl (y_move rfl) ?_
                                refine jl_y rfl (by decide) rfl (y_len_slice rfl) ?_
                                refine jl_y rfl (by decide) rfl (y_geq rfl rfl) ?_
                                refine jl_prop (fun h108 => ?_) (fun h108 => ?_)
                                · first
                                  | (exfalso; omega)
                                  | (
                                    have hsb := @sg_bad (cutS seed 100) m n (cutS (at0 ps i) 100) (by omega)
                                    have hs2 := hsb.2.1
                                    have hs3 := hsb.2.2
                                    refine jl_nil ?_
                                    refine jq_then ?_
                                    refine jc_true rfl ?_
                                    refine jc_seq ?_
                                    refine jc_seq ?_
                                    -- region 18
                                    refine jc_region ?_
                                    refine jl_y rfl (by decide) rfl (y_move rfl) ?_
                                    refine jl_y rfl (by decide) rfl (y_sneq rfl rfl) ?_
                                    refine jl_as (u := .bool false) (congrArg (fun b => Value.bool (!b)) (decide_eq_true (hsb.1))) ?_
                                    refine jl_y rfl (by decide) rfl (y_move rfl) ?_
                                    refine jl_y rfl (by decide) rfl (y_move rfl) ?_
                                    refine jl_y rfl (by decide) rfl (y_neq rfl rfl) ?_
                                    refine jl_prop (fun h113 => ?_) (fun h113 => ?_)
                                    · first
                                      | (exfalso; omega)
                                      | (
                                        refine jl_y rfl (by decide) rfl (y_pick_false rfl rfl) ?_
                                        refine jl_y rfl (by decide) rfl (y_move rfl) ?_
                                        refine jl_skip rfl (by decide) rfl ?_
                                        refine jl_skip rfl (by decide) rfl ?_
                                        refine jl_skip rfl (by decide) rfl ?_
                                        refine jl_skip rfl (by decide) rfl ?_
                                        refine jl_skip rfl (by decide) rfl ?_
                                        refine jl_skip rfl (by decide) rfl ?_
                                        refine jl_y rfl (by decide) rfl (y_pick_true rfl rfl) ?_
                                        refine jl_nil ?_
                                        refine jq_then ?_
                                        refine jc_true rfl ?_
                                        refine jc_seq ?_
                                        -- region 19
                                        refine jc_region ?_
                                        refine jl_y rfl (by decide) rfl (y_assign rfl) ?_
                                        refine jl_nil ?_
                                        refine jq_then ?_
                                        refine jc_ret ?_
                                        refine jq_then_ret ?_
                                        refine jq_then_ret ?_
                                        refine jq_block_ret ?_
                                        refine jq_then_ret ?_
                                        refine jq_then_ret ?_
                                        refine jq_block_ret ?_
                                        refine jq_then_ret ?_
                                        refine jq_ret1 rfl rfl ?_
                                        exact fun _ hw => ⟨rfl, (hallk.next hw (by repeat first | exact ⟨_, mem0, rfl⟩ | exact ⟨_, mem1, rfl⟩ | exact ⟨_, mem2, rfl⟩ | refine List.forall_mem_cons.2 ⟨?_, ?_⟩ | exact fun _ h => absurd h List.not_mem_nil)).ch⟩
                                        )
                                    · first
                                      | (exfalso; omega)
                                      | (
                                        refine jl_y rfl (by decide) rfl (y_pick_false rfl rfl) ?_
                                        refine jl_y rfl (by decide) rfl (y_move rfl) ?_
                                        refine jl_y rfl (by decide) rfl (y_move rfl) ?_
                                        first | refine jl_y rfl (by decide) rfl (y_nilCheck rfl) ?_ | refine jl_y rfl (by decide) rfl (y_nilCheck_func rfl) ?_
                                        refine jl_y rfl (by decide) rfl (y_fieldAddr rfl) ?_
                                        refine jl_y rfl (by decide) rfl (y_load_old rfl hkk.2.1 hkk.1) ?_
                                        refine jl_pcall rfl (by decide) rfl (goes_func rfl) (fun w1 hw1 => pcall hw1 (cleft_any bk.2 ((sgN m n : Nat) : Int) ((2 ^ m : Nat) : Int) w1 (CellAt.of_cells (hw1.get (A := .cells bk.2 [.int .i64 ((sgN m n : Nat) : Int), .int .i64 ((2 ^ m : Nat) : Int)]) mem1) rfl) (CellAt.of_cells (hw1.get (A := .cells bk.2 [.int .i64 ((sgN m n : Nat) : Int), .int .i64 ((2 ^ m : Nat) : Int)]) mem1) rfl) (by omega) (by omega) (by omega))) ?_
                                        refine jl_y rfl (by decide) rfl (y_neq rfl rfl) ?_
                                        refine jl_prop (fun h121 => ?_) (fun h121 => ?_)
                                        · first
                                          | (exfalso; omega)
                                          | (
                                            refine jl_y rfl (by decide) rfl (y_pick_false rfl rfl) ?_
                                            refine jl_nil ?_
                                            refine jq_then ?_
                                            refine jc_true rfl ?_
                                            refine jc_seq ?_
                                            -- region 19
                                            refine jc_region ?_
                                            refine jl_y rfl (by decide) rfl (y_assign rfl) ?_
                                            refine jl_nil ?_
                                            refine jq_then ?_
                                            refine jc_ret ?_
                                            refine jq_then_ret ?_
                                            refine jq_then_ret ?_
                                            refine jq_block_ret ?_
                                            refine jq_then_ret ?_
                                            refine jq_then_ret ?_
                                            refine jq_block_ret ?_
                                            refine jq_then_ret ?_
                                            refine jq_ret1 rfl rfl ?_
                                            exact fun _ hw => ⟨rfl, (hallk.next hw (by repeat first | exact ⟨_, mem0, rfl⟩ | exact ⟨_, mem1, rfl⟩ | exact ⟨_, mem2, rfl⟩ | refine List.forall_mem_cons.2 ⟨?_, ?_⟩ | exact fun _ h => absurd h List.not_mem_nil)).ch⟩
                                            )
                                        · first
                                          | (exfalso; omega)
                                          | (
                                            refine jl_y rfl (by decide) rfl (y_pick_false rfl rfl) ?_
                                            refine jl_nil ?_
                                            refine jq_then ?_
                                            refine jc_false rfl ?_
                                            refine jc_skip ?_
                                            refine jq_then ?_
                                            refine jc_exit ?_
                                            refine jq_then_exit ?_
                                            refine jq_hit ?_
                                            refine jq_then ?_
                                            -- region 14
                                            refine jc_region ?_
                                            refine jl_y rfl (by decide) rfl (y_move rfl) ?_
                                            refine jl_y rfl (by decide) rfl (y_add_fits rfl rfl (by simp only [fits]; omega)) ?_
                                            refine jl_y rfl (by decide) rfl (y_assign rfl) ?_
                                            refine jl_nil ?_
                                            refine jq_round2 (i := i) (j := n) (i + 1) (sgN m n) ?_ ?_ ?_
                                            · omega
                                            · exact ⟨rfl, rfl, rfl, rfl, lk_int rfl (by omega), trivial⟩
                                            · exact fun _ h => ⟨by omega, h⟩
                                            )
                                        )
                                    )
                                · first
                                  | (exfalso; omega)
                                  | (
                                    have hni : n = i := by omega
                                    have hsb := @sg_ok (cutS seed 100) m n (cutS (at0 ps i) 100) (by omega)
                                    have hs2 := hsb.2.1
                                    have hs3 := hsb.2.2
                                    refine jl_nil ?_
                                    refine jq_then ?_
                                    refine jc_false rfl ?_
                                    refine jc_skip ?_
                                    refine jq_then ?_
                                    refine jc_seq ?_
                                    -- region 20
                                    refine jc_region ?_
                                    refine jl_y rfl (by decide) rfl (y_move rfl) ?_
                                    refine jl_y rfl (by decide) rfl (y_move rfl) ?_
                                    refine jl_y rfl (by decide) rfl (y_move rfl) ?_
                                    refine jl_y rfl (by decide) rfl (y_move rfl) ?_
                                    refine jl_y rfl (by decide) rfl (y_move rfl) ?_
                                    refine jl_pcall rfl (by decide) rfl (goes_func rfl) (fun w1 hw1 => pcall hw1 (rksign_any (cutS seed 100) m la lc i (cutS (at0 ps i) 100) w1 (by omega) (by omega) (by omega) (by omega) (Strs.of_own (hw1.get mem0)))) ?_
                                    refine jl_y rfl (by decide) rfl (y_sneq rfl rfl) ?_
                                    refine jl_as (u := .bool false) (congrArg (fun b => Value.bool (!b)) (decide_eq_true (by rw [hsb.1, hni]))) ?_
                                    refine jl_y rfl (by decide) rfl (y_move rfl) ?_
                                    refine jl_y rfl (by decide) rfl (y_move rfl) ?_
                                    refine jl_y rfl (by decide) rfl (y_neq rfl rfl) ?_
                                    refine jl_prop (fun h132 => ?_) (fun h132 => ?_)
                                    · first
                                      | (exfalso; omega)
                                      | (
                                        refine jl_y rfl (by decide) rfl (y_pick_false rfl rfl) ?_
                                        refine jl_y rfl (by decide) rfl (y_move rfl) ?_
                                        refine jl_skip rfl (by decide) rfl ?_
                                        refine jl_skip rfl (by decide) rfl ?_
                                        refine jl_skip rfl (by decide) rfl ?_
                                        refine jl_skip rfl (by decide) rfl ?_
                                        refine jl_skip rfl (by decide) rfl ?_
                                        refine jl_skip rfl (by decide) rfl ?_
                                        refine jl_skip rfl (by decide) rfl ?_
                                        refine jl_skip rfl (by decide) rfl ?_
                                        refine jl_y rfl (by decide) rfl (y_pick_true rfl rfl) ?_
                                        refine jl_y rfl (by decide) rfl (y_move rfl) ?_
                                        refine jl_skip rfl (by decide) rfl ?_
                                        refine jl_skip rfl (by decide) rfl ?_
                                        refine jl_skip rfl (by decide) rfl ?_
                                        refine jl_skip rfl (by decide) rfl ?_
                                        refine jl_skip rfl (by decide) rfl ?_
                                        refine jl_skip rfl (by decide) rfl ?_
                                        refine jl_skip rfl (by decide) rfl ?_
                                        refine jl_skip rfl (by decide) rfl ?_
                                        refine jl_skip rfl (by decide) rfl ?_
                                        refine jl_skip rfl (by decide) rfl ?_
                                        refine jl_skip rfl (by decide) rfl ?_
                                        refine jl_y rfl (by decide) rfl (y_pick_true rfl rfl) ?_
                                        refine jl_nil ?_
                                        refine jq_then ?_
                                        refine jc_true rfl ?_
                                        refine jc_seq ?_
                                        -- region 21
                                        refine jc_region ?_
                                        refine jl_y rfl (by decide) rfl (y_assign rfl) ?_
                                        refine jl_nil ?_
                                        refine jq_then ?_
                                        refine jc_ret ?_
                                        refine jq_block_ret ?_
                                        refine jq_then_ret ?_
                                        refine jq_then_ret ?_
                                        refine jq_block_ret ?_
                                        refine jq_then_ret ?_
                                        refine jq_ret1 rfl rfl ?_
                                        exact fun _ hw => ⟨rfl, (hallk.next hw (by repeat first | exact ⟨_, mem0, rfl⟩ | exact ⟨_, mem1, rfl⟩ | exact ⟨_, mem2, rfl⟩ | refine List.forall_mem_cons.2 ⟨?_, ?_⟩ | exact fun _ h => absurd h List.not_mem_nil)).ch⟩
                                        )
                                    · first
                                      | (exfalso; omega)
                                      | (
                                        refine jl_y rfl (by decide) rfl (y_pick_false rfl rfl) ?_
                                        refine jl_y rfl (by decide) rfl (y_move rfl) ?_
                                        refine jl_y rfl (by decide) rfl (y_move rfl) ?_
                                        first | refine jl_y rfl (by decide) rfl (y_nilCheck rfl) ?_ | refine jl_y rfl (by decide) rfl (y_nilCheck_func rfl) ?_
                                        refine jl_y rfl (by decide) rfl (y_fieldAddr rfl) ?_
                                        refine jl_y rfl (by decide) rfl (y_load_old rfl hkk.2.1 hkk.1) ?_
                                        refine jl_pcall rfl (by decide) rfl (goes_func rfl) (fun w1 hw1 => pcall hw1 (cnext_any bk.2 ((sgN m n : Nat) : Int) w1 (CellAt.of_cells (hw1.get (A := .cells bk.2 [.int .i64 ((sgN m n : Nat) : Int), .int .i64 ((2 ^ m : Nat) : Int)]) mem1) rfl))) ?_
                                        refine jl_y rfl (by decide) rfl (y_move rfl) ?_
                                        refine jl_y rfl (by decide) rfl (y_add_fits rfl rfl (by simp only [fits]; omega)) ?_
                                        refine jl_y rfl (by decide) rfl (y_neq rfl rfl) ?_
                                        refine jl_prop (fun h142 => ?_) (fun h142 => ?_)
                                        · first
                                          | (exfalso; omega)
                                          | (
                                            refine jl_y rfl (by decide) rfl (y_pick_false rfl rfl) ?_
                                            refine jl_y rfl (by decide) rfl (y_move rfl) ?_
                                            refine jl_skip rfl (by decide) rfl ?_
                                            refine jl_skip rfl (by decide) rfl ?_
                                            refine jl_skip rfl (by decide) rfl ?_
                                            refine jl_skip rfl (by decide) rfl ?_
                                            refine jl_skip rfl (by decide) rfl ?_
                                            refine jl_skip rfl (by decide) rfl ?_
                                            refine jl_skip rfl (by decide) rfl ?_
                                            refine jl_skip rfl (by decide) rfl ?_
                                            refine jl_skip rfl (by decide) rfl ?_
                                            refine jl_skip rfl (by decide) rfl ?_
                                            refine jl_skip rfl (by decide) rfl ?_
                                            refine jl_y rfl (by decide) rfl (y_pick_true rfl rfl) ?_
                                            refine jl_nil ?_
                                            refine jq_then ?_
                                            refine jc_true rfl ?_
                                            refine jc_seq ?_
                                            -- region 21
                                            refine jc_region ?_
                                            refine jl_y rfl (by decide) rfl (y_assign rfl) ?_
                                            refine jl_nil ?_
                                            refine jq_then ?_
                                            refine jc_ret ?_
                                            refine jq_block_ret ?_
                                            refine jq_then_ret ?_
                                            refine jq_then_ret ?_
                                            refine jq_block_ret ?_
                                            refine jq_then_ret ?_
                                            refine jq_ret1 rfl rfl ?_
                                            exact fun _ hw => ⟨rfl, (hallk.next hw (by repeat first | exact ⟨_, mem0, rfl⟩ | exact ⟨_, mem1, rfl⟩ | exact ⟨_, mem2, rfl⟩ | refine List.forall_mem_cons.2 ⟨?_, ?_⟩ | exact fun _ h => absurd h List.not_mem_nil)).ch⟩
                                            )
                                        · first
                                          | (exfalso; omega)
                                          | (
                                            refine jl_y rfl (by decide) rfl (y_pick_false rfl rfl) ?_
                                            refine jl_y rfl (by decide) rfl (y_move rfl) ?_
                                            refine jl_y rfl (by decide) rfl (y_move rfl) ?_
                                            first | refine jl_y rfl (by decide) rfl (y_nilCheck rfl) ?_ | refine jl_y rfl (by decide) rfl (y_nilCheck_func rfl) ?_
                                            refine jl_y rfl (by decide) rfl (y_fieldAddr rfl) ?_
                                            refine jl_y rfl (by decide) rfl (y_load_old rfl hkk.2.1 hkk.1) ?_
                                            refine jl_pcall rfl (by decide) rfl (goes_func rfl) (fun w1 hw1 => pcall hw1 (cleft_any bk.2 ((sgN m n : Nat) : Int) ((2 ^ m : Nat) : Int) w1 (CellAt.of_cells (hw1.get (A := .cells bk.2 [.int .i64 ((sgN m n : Nat) : Int), .int .i64 ((2 ^ m : Nat) : Int)]) mem1) rfl) (CellAt.of_cells (hw1.get (A := .cells bk.2 [.int .i64 ((sgN m n : Nat) : Int), .int .i64 ((2 ^ m : Nat) : Int)]) mem1) rfl) (by omega) (by omega) (by omega))) ?_
                                            refine jl_y rfl (by decide) rfl (y_move rfl) ?_
                                            refine jl_y rfl (by decide) rfl (y_len_slice rfl) ?_
                                            refine jl_y rfl (by decide) rfl (y_move rfl) ?_
                                            refine jl_y rfl (by decide) rfl (y_sub_fits rfl rfl (by simp only [fits]; omega)) ?_
                                            refine jl_y rfl (by decide) rfl (y_sub_fits rfl rfl (by simp only [fits]; omega)) ?_
                                            refine jl_y rfl (by decide) rfl (y_neq rfl rfl) ?_
                                            refine jl_prop (fun h155 => ?_) (fun h155 => ?_)
                                            · first
                                              | (exfalso; omega)
                                              | (
                                                refine jl_y rfl (by decide) rfl (y_pick_false rfl rfl) ?_
                                                refine jl_nil ?_
                                                refine jq_then ?_
                                                refine jc_true rfl ?_
                                                refine jc_seq ?_
                                                -- region 21
                                                refine jc_region ?_
                                                refine jl_y rfl (by decide) rfl (y_assign rfl) ?_
                                                refine jl_nil ?_
                                                refine jq_then ?_
                                                refine jc_ret ?_
                                                refine jq_block_ret ?_
                                                refine jq_then_ret ?_
                                                refine jq_then_ret ?_
                                                refine jq_block_ret ?_
                                                refine jq_then_ret ?_
                                                refine jq_ret1 rfl rfl ?_
                                                exact fun _ hw => ⟨rfl, (hallk.next hw (by repeat first | exact ⟨_, mem0, rfl⟩ | exact ⟨_, mem1, rfl⟩ | exact ⟨_, mem2, rfl⟩ | refine List.forall_mem_cons.2 ⟨?_, ?_⟩ | exact fun _ h => absurd h List.not_mem_nil)).ch⟩
                                                )
                                            · first
                                              | (exfalso; omega)
                                              | (
                                                refine jl_y rfl (by decide) rfl (y_pick_false rfl rfl) ?_
                                                refine jl_nil ?_
                                                refine jq_then ?_
                                                refine jc_false rfl ?_
                                                refine jc_skip ?_
                                                refine jq_block ?_
                                                refine jq_then ?_
                                                -- region 14
                                                refine jc_region ?_
                                                refine jl_y rfl (by decide) rfl (y_move rfl) ?_
                                                refine jl_y rfl (by decide) rfl (y_add_fits rfl rfl (by simp only [fits]; omega)) ?_
                                                refine jl_y rfl (by decide) rfl (y_assign rfl) ?_
                                                refine jl_nil ?_
                                                refine jq_round2 (i := i) (j := n) (i + 1) (sgN m n) ?_ ?_ ?_
                                                · omega
                                                · exact ⟨rfl, rfl, rfl, rfl, lk_int rfl (by omega), trivial⟩
                                                · exact fun _ h => ⟨by omega, h⟩
                                                )
                                            )
                                        )
                                    )
                                )
                            · first
                              | (exfalso; omega)
                              | (
                                refine jl_y rfl (by decide) rfl (y_pick_true rfl rfl) ?_
                                refine jl_nil ?_
                                refine jq_then ?_
                                refine jc_false rfl ?_
                                refine jc_exit ?_
                                refine jq_then_exit ?_
                                refine jq_then_exit ?_
                                refine jq_hit ?_
                                refine jq_then ?_
                                refine jc_seq ?_
                                -- region 22
                                refine jc_region ?_
                                refine jl_pcall rfl (by decide) rfl (goes_func rfl) (fun w1 hw1 => pcall hw1 (fixed7_any w1)) ?_
                                refine jl_y rfl (by decide) rfl (y_assign rfl) ?_
                                refine jl_nil ?_
                                refine jq_then ?_
                                refine jc_ret ?_
                                refine jq_ret1 rfl rfl ?_
                                exact fun _ hw => ⟨rfl, (hallk.next hw (by repeat first | exact ⟨_, mem0, rfl⟩ | exact ⟨_, mem1, rfl⟩ | exact ⟨_, mem2, rfl⟩ | refine List.forall_mem_cons.2 ⟨?_, ?_⟩ | exact fun _ h => absurd h List.not_mem_nil)).ch⟩
                                )
                            )
                        · first
                          | (exfalso; omega)
                          | (
                            refine jl_y rfl (by decide) rfl (y_move rfl) ?_
                            refine jl_skip rfl (by decide) rfl ?_
                            refine jl_skip rfl (by decide) rfl ?_
                            refine jl_y rfl (by decide) rfl (y_pick_false rfl rfl) ?_
                            refine jl_nil ?_
                            refine jq_then ?_
                            refine jc_false rfl ?_
                            refine jc_exit ?_
                            refine jq_then_exit ?_
                            refine jq_then_exit ?_
                            refine jq_hit ?_
                            refine jq_then ?_
                            refine jc_seq ?_
                            -- region 22
                            refine jc_region ?_
                            refine jl_pcall rfl (by decide) rfl (goes_func rfl) (fun w1 hw1 => pcall hw1 (fixed7_any w1)) ?_
                            refine jl_y rfl (by decide) rfl (y_assign rfl) ?_
                            refine jl_nil ?_
                            refine jq_then ?_
                            refine jc_ret ?_
                            refine jq_ret1 rfl rfl ?_
                            exact fun _ hw => ⟨rfl, (hallk.next hw (by repeat first | exact ⟨_, mem0, rfl⟩ | exact ⟨_, mem1, rfl⟩ | exact ⟨_, mem2, rfl⟩ | refine List.forall_mem_cons.2 ⟨?_, ?_⟩ | exact fun _ h => absurd h List.not_mem_nil)).ch⟩
                            )
                      )
                  )
              )
          )
      )

theorem merkleSigns_bad (seed : ByteArray) (tall : Int) (ad : Option Addr) (c : Nat) (ps : List ByteArray) (w : World) (ht : fits .i64 tall) (hv : ¬ (0 ≤ tall ∧ tall ≤ 4)) :
    Calls Try.prog 4 #[.string seed, .int .i64 tall, .slice ad ps.length c] w fun e w' => e = .returned (.bool true) ∧ Ch [] w w' := by
  simp only [fits] at ht
  refine calls_of (n := 158) (E := [(0, .string seed), (1, .int .i64 tall), (2, .slice ad ps.length c)]) (W := Hp w [] []) Try.func4 rfl rfl (Nat.le_of_ble_eq_true rfl) rfl (Hp.nil _ _) ?_
  refine jc_seq ?_
  -- region 0
  refine jc_region ?_
  refine jl_y rfl (by decide) rfl (y_assign rfl) ?_
  refine jl_nil ?_
  refine jq_then ?_
  refine jc_seq ?_
  -- region 1
  refine jc_region ?_
  refine jl_y rfl (by decide) rfl (y_move rfl) ?_
  refine jl_y rfl (by decide) rfl (y_move rfl) ?_
  refine jl_y rfl (by decide) rfl (y_len_str rfl) ?_
  refine jl_y rfl (by decide) rfl (y_min rfl rfl) ?_
  refine jl_y rfl (by decide) rfl (y_substr_hi rfl rfl (by omega) (by omega)) ?_
  refine jl_as (congrArg Value.string (cut_eq _ 100)) ?_
  refine jl_y rfl (by decide) rfl (y_assign rfl) ?_
  refine jl_nil ?_
  refine jq_then ?_
  refine jc_seq ?_
  -- region 2
  refine jc_region ?_
  refine jl_y rfl (by decide) rfl (y_move rfl) ?_
  refine jl_y rfl (by decide) rfl (y_assign rfl) ?_
  refine jl_nil ?_
  refine jq_then ?_
  refine jc_seq ?_
  refine jc_seq ?_
  -- region 3
  refine jc_region ?_
  refine jl_y rfl (by decide) rfl (y_move rfl) ?_
  refine jl_y rfl (by decide) rfl (y_gtr rfl rfl) ?_
  refine jl_prop (fun h24 => ?_) (fun h24 => ?_)
  · first
    | (exfalso; omega)
    | (
      refine jl_y rfl (by decide) rfl (y_move rfl) ?_
      refine jl_y rfl (by decide) rfl (y_move rfl) ?_
      refine jl_y rfl (by decide) rfl (y_leq rfl rfl) ?_
      refine jl_prop (fun h27 => ?_) (fun h27 => ?_)
      · first
        | (exfalso; omega)
        | (
          refine jl_y rfl (by decide) rfl (y_pick_true rfl rfl) ?_
          refine jl_nil ?_
          refine jq_then ?_
          refine jc_true rfl ?_
          -- region 4
          refine jc_region ?_
          refine jl_y rfl (by decide) rfl (y_assign rfl) ?_
          refine jl_nil ?_
          refine jq_then ?_
          refine jc_seq ?_
          -- region 5
          refine jc_region ?_
          refine jl_y rfl (by decide) rfl (y_move rfl) ?_
          refine jl_y rfl (by decide) rfl (y_move rfl) ?_
          refine jl_pcall rfl (by decide) rfl (goes_func rfl) (fun w1 hw1 => pcall hw1 (mnew_bad _ _ w1 (by omega))) ?_
          refine jl_y rfl (by decide) rfl (y_move rfl) ?_
          refine jl_y rfl (by decide) rfl (y_extract rfl rfl) ?_
          refine jl_y rfl (by decide) rfl (y_extract rfl rfl) ?_
          refine jl_y rfl (by decide) rfl (y_assign rfl) ?_
          refine jl_y rfl (by decide) rfl (y_assign rfl) ?_
          refine jl_nil ?_
          refine jq_then ?_
          refine jc_seq ?_
          refine jc_seq ?_
          -- region 6
          refine jc_region ?_
          refine jl_y rfl (by decide) rfl (y_move rfl) ?_
          refine jl_y rfl (by decide) rfl (y_lss rfl rfl) ?_
          refine jl_prop (fun h36 => ?_) (fun h36 => ?_)
          · first
            | (exfalso; omega)
            | (
              refine jl_y rfl (by decide) rfl (y_move rfl) ?_
              refine jl_skip rfl (by decide) rfl ?_
              refine jl_skip rfl (by decide) rfl ?_
              refine jl_y rfl (by decide) rfl (y_pick_true rfl rfl) ?_
              refine jl_nil ?_
              refine jq_then ?_
              refine jc_true rfl ?_
              refine jc_seq ?_
              -- region 7
              refine jc_region ?_
              refine jl_y rfl (by decide) rfl (y_move rfl) ?_
              refine jl_y rfl (by decide) rfl (y_eql_nil rfl rfl) ?_
              refine jl_as (u := .bool true) rfl ?_
              refine jl_y rfl (by decide) rfl (y_move rfl) ?_
              refine jl_y rfl (by decide) rfl (y_move rfl) ?_
              refine jl_y rfl (by decide) rfl (y_eql rfl rfl) ?_
              refine jl_prop (fun h45 => ?_) (fun h45 => ?_)
              · first
                | (exfalso; omega)
                | (
                  refine jl_y rfl (by decide) rfl (y_pick_true rfl rfl) ?_
                  refine jl_y rfl (by decide) rfl (y_move rfl) ?_
                  refine jl_pcall rfl (by decide) rfl (goes_func rfl) (fun w1 hw1 => pcall hw1 (fixed7_any w1)) ?_
                  refine jl_y rfl (by decide) rfl (y_pick_true rfl rfl) ?_
                  refine jl_y rfl (by decide) rfl (y_assign rfl) ?_
                  refine jl_nil ?_
                  refine jq_then ?_
                  refine jc_ret ?_
                  refine jq_then_ret ?_
                  refine jq_ret1 rfl rfl ?_
                  exact fun _ hw => ⟨rfl, hw.ch⟩
                  )
              · first
                | (exfalso; omega)
                | (
                  refine jl_y rfl (by decide) rfl (y_pick_true rfl rfl) ?_
                  refine jl_y rfl (by decide) rfl (y_move rfl) ?_
                  refine jl_skip rfl (by decide) rfl ?_
                  refine jl_y rfl (by decide) rfl (y_pick_false rfl rfl) ?_
                  refine jl_y rfl (by decide) rfl (y_assign rfl) ?_
                  refine jl_nil ?_
                  refine jq_then ?_
                  refine jc_ret ?_
                  refine jq_then_ret ?_
                  refine jq_ret1 rfl rfl ?_
                  exact fun _ hw => ⟨rfl, hw.ch⟩
                  )
              )
          · first
            | (exfalso; omega)
            | (
              refine jl_y rfl (by decide) rfl (y_move rfl) ?_
              refine jl_y rfl (by decide) rfl (y_move rfl) ?_
              refine jl_y rfl (by decide) rfl (y_gtr rfl rfl) ?_
              refine jl_prop (fun h39 => ?_) (fun h39 => ?_)
              · first
                | (exfalso; omega)
                | (
                  refine jl_y rfl (by decide) rfl (y_pick_false rfl rfl) ?_
                  refine jl_nil ?_
                  refine jq_then ?_
                  refine jc_true rfl ?_
                  refine jc_seq ?_
                  -- region 7
                  refine jc_region ?_
                  refine jl_y rfl (by decide) rfl (y_move rfl) ?_
                  refine jl_y rfl (by decide) rfl (y_eql_nil rfl rfl) ?_
                  refine jl_as (u := .bool true) rfl ?_
                  refine jl_y rfl (by decide) rfl (y_move rfl) ?_
                  refine jl_y rfl (by decide) rfl (y_move rfl) ?_
                  refine jl_y rfl (by decide) rfl (y_eql rfl rfl) ?_
                  refine jl_prop (fun h45 => ?_) (fun h45 => ?_)
                  · first
                    | (exfalso; omega)
                    | (
                      refine jl_y rfl (by decide) rfl (y_pick_true rfl rfl) ?_
                      refine jl_y rfl (by decide) rfl (y_move rfl) ?_
                      refine jl_pcall rfl (by decide) rfl (goes_func rfl) (fun w1 hw1 => pcall hw1 (fixed7_any w1)) ?_
                      refine jl_y rfl (by decide) rfl (y_pick_true rfl rfl) ?_
                      refine jl_y rfl (by decide) rfl (y_assign rfl) ?_
                      refine jl_nil ?_
                      refine jq_then ?_
                      refine jc_ret ?_
                      refine jq_then_ret ?_
                      refine jq_ret1 rfl rfl ?_
                      exact fun _ hw => ⟨rfl, hw.ch⟩
                      )
                  · first
                    | (exfalso; omega)
                    | (
                      refine jl_y rfl (by decide) rfl (y_pick_true rfl rfl) ?_
                      refine jl_y rfl (by decide) rfl (y_move rfl) ?_
                      refine jl_skip rfl (by decide) rfl ?_
                      refine jl_y rfl (by decide) rfl (y_pick_false rfl rfl) ?_
                      refine jl_y rfl (by decide) rfl (y_assign rfl) ?_
                      refine jl_nil ?_
                      refine jq_then ?_
                      refine jc_ret ?_
                      refine jq_then_ret ?_
                      refine jq_ret1 rfl rfl ?_
                      exact fun _ hw => ⟨rfl, hw.ch⟩
                      )
                  )
              · exfalso; omega
              )
          )
      · first
        | (exfalso; omega)
        | (
          refine jl_y rfl (by decide) rfl (y_pick_true rfl rfl) ?_
          refine jl_nil ?_
          refine jq_then ?_
          refine jc_false rfl ?_
          refine jc_skip ?_
          refine jq_then ?_
          refine jc_seq ?_
          -- region 5
          refine jc_region ?_
          refine jl_y rfl (by decide) rfl (y_move rfl) ?_
          refine jl_y rfl (by decide) rfl (y_move rfl) ?_
          refine jl_pcall rfl (by decide) rfl (goes_func rfl) (fun w1 hw1 => pcall hw1 (mnew_bad _ _ w1 (by omega))) ?_
          refine jl_y rfl (by decide) rfl (y_move rfl) ?_
          refine jl_y rfl (by decide) rfl (y_extract rfl rfl) ?_
          refine jl_y rfl (by decide) rfl (y_extract rfl rfl) ?_
          refine jl_y rfl (by decide) rfl (y_assign rfl) ?_
          refine jl_y rfl (by decide) rfl (y_assign rfl) ?_
          refine jl_nil ?_
          refine jq_then ?_
          refine jc_seq ?_
          refine jc_seq ?_
          -- region 6
          refine jc_region ?_
          refine jl_y rfl (by decide) rfl (y_move rfl) ?_
          refine jl_y rfl (by decide) rfl (y_lss rfl rfl) ?_
          refine jl_prop (fun h36 => ?_) (fun h36 => ?_)
          · first
            | (exfalso; omega)
            | (
              refine jl_y rfl (by decide) rfl (y_move rfl) ?_
              refine jl_skip rfl (by decide) rfl ?_
              refine jl_skip rfl (by decide) rfl ?_
              refine jl_y rfl (by decide) rfl (y_pick_true rfl rfl) ?_
              refine jl_nil ?_
              refine jq_then ?_
              refine jc_true rfl ?_
              refine jc_seq ?_
              -- region 7
              refine jc_region ?_
              refine jl_y rfl (by decide) rfl (y_move rfl) ?_
              refine jl_y rfl (by decide) rfl (y_eql_nil rfl rfl) ?_
              refine jl_as (u := .bool true) rfl ?_
              refine jl_y rfl (by decide) rfl (y_move rfl) ?_
              refine jl_y rfl (by decide) rfl (y_move rfl) ?_
              refine jl_y rfl (by decide) rfl (y_eql rfl rfl) ?_
              refine jl_prop (fun h45 => ?_) (fun h45 => ?_)
              · first
                | (exfalso; omega)
                | (
                  refine jl_y rfl (by decide) rfl (y_pick_true rfl rfl) ?_
                  refine jl_y rfl (by decide) rfl (y_move rfl) ?_
                  refine jl_pcall rfl (by decide) rfl (goes_func rfl) (fun w1 hw1 => pcall hw1 (fixed7_any w1)) ?_
                  refine jl_y rfl (by decide) rfl (y_pick_true rfl rfl) ?_
                  refine jl_y rfl (by decide) rfl (y_assign rfl) ?_
                  refine jl_nil ?_
                  refine jq_then ?_
                  refine jc_ret ?_
                  refine jq_then_ret ?_
                  refine jq_ret1 rfl rfl ?_
                  exact fun _ hw => ⟨rfl, hw.ch⟩
                  )
              · first
                | (exfalso; omega)
                | (
                  refine jl_y rfl (by decide) rfl (y_pick_true rfl rfl) ?_
                  refine jl_y rfl (by decide) rfl (y_move rfl) ?_
                  refine jl_skip rfl (by decide) rfl ?_
                  refine jl_y rfl (by decide) rfl (y_pick_false rfl rfl) ?_
                  refine jl_y rfl (by decide) rfl (y_assign rfl) ?_
                  refine jl_nil ?_
                  refine jq_then ?_
                  refine jc_ret ?_
                  refine jq_then_ret ?_
                  refine jq_ret1 rfl rfl ?_
                  exact fun _ hw => ⟨rfl, hw.ch⟩
                  )
              )
          · first
            | (exfalso; omega)
            | (
              refine jl_y rfl (by decide) rfl (y_move rfl) ?_
              refine jl_y rfl (by decide) rfl (y_move rfl) ?_
              refine jl_y rfl (by decide) rfl (y_gtr rfl rfl) ?_
              refine jl_prop (fun h39 => ?_) (fun h39 => ?_)
              · first
                | (exfalso; omega)
                | (
                  refine jl_y rfl (by decide) rfl (y_pick_false rfl rfl) ?_
                  refine jl_nil ?_
                  refine jq_then ?_
                  refine jc_true rfl ?_
                  refine jc_seq ?_
                  -- region 7
                  refine jc_region ?_
                  refine jl_y rfl (by decide) rfl (y_move rfl) ?_
                  refine jl_y rfl (by decide) rfl (y_eql_nil rfl rfl) ?_
                  refine jl_as (u := .bool true) rfl ?_
                  refine jl_y rfl (by decide) rfl (y_move rfl) ?_
                  refine jl_y rfl (by decide) rfl (y_move rfl) ?_
                  refine jl_y rfl (by decide) rfl (y_eql rfl rfl) ?_
                  refine jl_prop (fun h45 => ?_) (fun h45 => ?_)
                  · first
                    | (exfalso; omega)
                    | (
                      refine jl_y rfl (by decide) rfl (y_pick_true rfl rfl) ?_
                      refine jl_y rfl (by decide) rfl (y_move rfl) ?_
                      refine jl_pcall rfl (by decide) rfl (goes_func rfl) (fun w1 hw1 => pcall hw1 (fixed7_any w1)) ?_
                      refine jl_y rfl (by decide) rfl (y_pick_true rfl rfl) ?_
                      refine jl_y rfl (by decide) rfl (y_assign rfl) ?_
                      refine jl_nil ?_
                      refine jq_then ?_
                      refine jc_ret ?_
                      refine jq_then_ret ?_
                      refine jq_ret1 rfl rfl ?_
                      exact fun _ hw => ⟨rfl, hw.ch⟩
                      )
                  · first
                    | (exfalso; omega)
                    | (
                      refine jl_y rfl (by decide) rfl (y_pick_true rfl rfl) ?_
                      refine jl_y rfl (by decide) rfl (y_move rfl) ?_
                      refine jl_skip rfl (by decide) rfl ?_
                      refine jl_y rfl (by decide) rfl (y_pick_false rfl rfl) ?_
                      refine jl_y rfl (by decide) rfl (y_assign rfl) ?_
                      refine jl_nil ?_
                      refine jq_then ?_
                      refine jc_ret ?_
                      refine jq_then_ret ?_
                      refine jq_ret1 rfl rfl ?_
                      exact fun _ hw => ⟨rfl, hw.ch⟩
                      )
                  )
              · exfalso; omega
              )
          )
      )
  · first
    | (exfalso; omega)
    | (
      refine jl_y rfl (by decide) rfl (y_move rfl) ?_
      refine jl_skip rfl (by decide) rfl ?_
      refine jl_skip rfl (by decide) rfl ?_
      refine jl_y rfl (by decide) rfl (y_pick_false rfl rfl) ?_
      refine jl_nil ?_
      refine jq_then ?_
      refine jc_false rfl ?_
      refine jc_skip ?_
      refine jq_then ?_
      refine jc_seq ?_
      -- region 5
      refine jc_region ?_
      refine jl_y rfl (by decide) rfl (y_move rfl) ?_
      refine jl_y rfl (by decide) rfl (y_move rfl) ?_
      refine jl_pcall rfl (by decide) rfl (goes_func rfl) (fun w1 hw1 => pcall hw1 (mnew_bad _ _ w1 (by omega))) ?_
      refine jl_y rfl (by decide) rfl (y_move rfl) ?_
      refine jl_y rfl (by decide) rfl (y_extract rfl rfl) ?_
      refine jl_y rfl (by decide) rfl (y_extract rfl rfl) ?_
      refine jl_y rfl (by decide) rfl (y_assign rfl) ?_
      refine jl_y rfl (by decide) rfl (y_assign rfl) ?_
      refine jl_nil ?_
      refine jq_then ?_
      refine jc_seq ?_
      refine jc_seq ?_
      -- region 6
      refine jc_region ?_
      refine jl_y rfl (by decide) rfl (y_move rfl) ?_
      refine jl_y rfl (by decide) rfl (y_lss rfl rfl) ?_
      refine jl_prop (fun h36 => ?_) (fun h36 => ?_)
      · first
        | (exfalso; omega)
        | (
          refine jl_y rfl (by decide) rfl (y_move rfl) ?_
          refine jl_skip rfl (by decide) rfl ?_
          refine jl_skip rfl (by decide) rfl ?_
          refine jl_y rfl (by decide) rfl (y_pick_true rfl rfl) ?_
          refine jl_nil ?_
          refine jq_then ?_
          refine jc_true rfl ?_
          refine jc_seq ?_
          -- region 7
          refine jc_region ?_
          refine jl_y rfl (by decide) rfl (y_move rfl) ?_
          refine jl_y rfl (by decide) rfl (y_eql_nil rfl rfl) ?_
          refine jl_as (u := .bool true) rfl ?_
          refine jl_y rfl (by decide) rfl (y_move rfl) ?_
          refine jl_y rfl (by decide) rfl (y_move rfl) ?_
          refine jl_y rfl (by decide) rfl (y_eql rfl rfl) ?_
          refine jl_prop (fun h45 => ?_) (fun h45 => ?_)
          · first
            | (exfalso; omega)
            | (
              refine jl_y rfl (by decide) rfl (y_pick_true rfl rfl) ?_
              refine jl_y rfl (by decide) rfl (y_move rfl) ?_
              refine jl_pcall rfl (by decide) rfl (goes_func rfl) (fun w1 hw1 => pcall hw1 (fixed7_any w1)) ?_
              refine jl_y rfl (by decide) rfl (y_pick_true rfl rfl) ?_
              refine jl_y rfl (by decide) rfl (y_assign rfl) ?_
              refine jl_nil ?_
              refine jq_then ?_
              refine jc_ret ?_
              refine jq_then_ret ?_
              refine jq_ret1 rfl rfl ?_
              exact fun _ hw => ⟨rfl, hw.ch⟩
              )
          · first
            | (exfalso; omega)
            | (
              refine jl_y rfl (by decide) rfl (y_pick_true rfl rfl) ?_
              refine jl_y rfl (by decide) rfl (y_move rfl) ?_
              refine jl_skip rfl (by decide) rfl ?_
              refine jl_y rfl (by decide) rfl (y_pick_false rfl rfl) ?_
              refine jl_y rfl (by decide) rfl (y_assign rfl) ?_
              refine jl_nil ?_
              refine jq_then ?_
              refine jc_ret ?_
              refine jq_then_ret ?_
              refine jq_ret1 rfl rfl ?_
              exact fun _ hw => ⟨rfl, hw.ch⟩
              )
          )
      · first
        | (exfalso; omega)
        | (
          refine jl_y rfl (by decide) rfl (y_move rfl) ?_
          refine jl_y rfl (by decide) rfl (y_move rfl) ?_
          refine jl_y rfl (by decide) rfl (y_gtr rfl rfl) ?_
          refine jl_prop (fun h39 => ?_) (fun h39 => ?_)
          · first
            | (exfalso; omega)
            | (
              refine jl_y rfl (by decide) rfl (y_pick_false rfl rfl) ?_
              refine jl_nil ?_
              refine jq_then ?_
              refine jc_true rfl ?_
              refine jc_seq ?_
              -- region 7
              refine jc_region ?_
              refine jl_y rfl (by decide) rfl (y_move rfl) ?_
              refine jl_y rfl (by decide) rfl (y_eql_nil rfl rfl) ?_
              refine jl_as (u := .bool true) rfl ?_
              refine jl_y rfl (by decide) rfl (y_move rfl) ?_
              refine jl_y rfl (by decide) rfl (y_move rfl) ?_
              refine jl_y rfl (by decide) rfl (y_eql rfl rfl) ?_
              refine jl_prop (fun h45 => ?_) (fun h45 => ?_)
              · first
                | (exfalso; omega)
                | (
                  refine jl_y rfl (by decide) rfl (y_pick_true rfl rfl) ?_
                  refine jl_y rfl (by decide) rfl (y_move rfl) ?_
                  refine jl_pcall rfl (by decide) rfl (goes_func rfl) (fun w1 hw1 => pcall hw1 (fixed7_any w1)) ?_
                  refine jl_y rfl (by decide) rfl (y_pick_true rfl rfl) ?_
                  refine jl_y rfl (by decide) rfl (y_assign rfl) ?_
                  refine jl_nil ?_
                  refine jq_then ?_
                  refine jc_ret ?_
                  refine jq_then_ret ?_
                  refine jq_ret1 rfl rfl ?_
                  exact fun _ hw => ⟨rfl, hw.ch⟩
                  )
              · first
                | (exfalso; omega)
                | (
                  refine jl_y rfl (by decide) rfl (y_pick_true rfl rfl) ?_
                  refine jl_y rfl (by decide) rfl (y_move rfl) ?_
                  refine jl_skip rfl (by decide) rfl ?_
                  refine jl_y rfl (by decide) rfl (y_pick_false rfl rfl) ?_
                  refine jl_y rfl (by decide) rfl (y_assign rfl) ?_
                  refine jl_nil ?_
                  refine jq_then ?_
                  refine jc_ret ?_
                  refine jq_then_ret ?_
                  refine jq_ret1 rfl rfl ?_
                  exact fun _ hw => ⟨rfl, hw.ch⟩
                  )
              )
          · exfalso; omega
          )
      )

theorem merkleSigns_any (seed : ByteArray) (tall : Int) (ad : Option Addr) (c : Nat) (ps : List ByteArray) (w : World) (ht : fits .i64 tall) (hps : Strs w ad ps) : Calls Try.prog 4 #[.string seed, .int .i64 tall, .slice ad ps.length c] w fun e w' => e = .returned (.bool true) ∧ Ch [] w w' := by
  by_cases hv : 0 ≤ tall ∧ tall ≤ 4
  · exact merkleSigns_ok seed tall ad c ps w ht ⟨hps, fun _ _ _ _ hm => by cases hm⟩ hv
  · exact merkleSigns_bad seed tall ad c ps w ht hv
end Go.Proofs.Ytbemnhllcpopbaa