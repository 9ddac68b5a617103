/- The walks of package note. Written by program (walk.py) out of a table of contracts and invariants. -/
import Derived.Test.YtghomncegjamfaaGreatMcod
import Derived.Test.YtghomncegjamfaaGreatNu
import Derived.Test.YtghomncegjamfaaGreatJl
import Derived.Test.YtghomncegjamfaaGreatMnote
namespace Go.Proofs.YtghomncegjamfaaGreat
open Go.RowKit
set_option maxRecDepth 100000
set_option linter.unusedVariables false
set_option linter.unusedSimpArgs false
attribute [local irreducible] Yields Makes Writes
/-- What a writer's, a reader's block holds. -/
def wC (b : Nat) (x : WS) : HA := .cells b [.string x.1, .int .i64 x.2]
def rC (b : Nat) (S : ByteArray) (x : RS) : HA := .cells b [.string (S.extract x.1 S.size), .int .i64 x.2]
theorem ext_hi {S : ByteArray} {a n : Nat} (h : a + n ≤ S.size) : (S.extract a S.size).extract 0 n = S.extract a (a + n) := by
  apply ints_inj
  rw [ints_extract, ints_extract, ints_extract, List.drop_zero, List.take_drop, List.take_take]
  congr 2
  omega
theorem ext_lo {S : ByteArray} {a n : Nat} (h : a + n ≤ S.size) : (S.extract a S.size).extract n (S.size - a) = S.extract (a + n) S.size := by
  apply ints_inj
  have hl := ints_length S
  rw [ints_extract, ints_extract, ints_extract, List.take_of_length_le (l := ints S) (by omega), List.take_of_length_le (by rw [List.length_drop]; omega), List.drop_drop]
theorem tk_fail {S : ByteArray} {x : RS} {n : Nat} (h : ¬ x.1 + n ≤ S.size) : tkV S x n = ⟨#[]⟩ ∧ tkS S x n = (x.1, failE x.2 3) := by
  by_cases h0 : x.2 = 0
  · rw [failE_zero 3 h0]; exact tk_short h0 h
  · rw [failE_old 3 h0]; exact tk_bad h0
theorem fail_cases (e er : Int) : (e = 0 ∧ failE e er = er) ∨ (e ≠ 0 ∧ failE e er = e) := by
  by_cases h : e = 0
  · exact .inl ⟨h, failE_zero er h⟩
  · exact .inr ⟨h, failE_old er h⟩
theorem dec_and {n : Int} : (0 ≤ n → (decide (n ≤ 255)) = decide (0 ≤ n ∧ n ≤ 255)) ∧ (¬ 0 ≤ n → false = decide (0 ≤ n ∧ n ≤ 255)) :=
  ⟨fun h => by rw [decide_eq_decide]; omega, fun h => by symm; rw [decide_eq_false_iff_not]; omega⟩
theorem two_or (s : ByteArray) : bits .or .i64 ((ints s).getD 0 0 * 256) ((ints s).getD 1 0) = two s := by
  have h1 := ints_getD_range s 0
  have h2 := ints_getD_range s 1
  unfold two
  generalize (ints s).getD 0 0 = a at *
  generalize (ints s).getD 1 0 = b at *
  obtain ⟨m, rfl⟩ := Int.eq_ofNat_of_zero_le h1.1
  obtain ⟨n, rfl⟩ := Int.eq_ofNat_of_zero_le h2.1
  have e1 : BitVec.ofInt 64 (((m : Nat) : Int) * 256) = BitVec.ofNat 64 (m * 256) := by rw [← BitVec.ofInt_natCast]; congr 1
  have e2 : BitVec.ofInt 64 ((n : Nat) : Int) = BitVec.ofNat 64 n := BitVec.ofInt_natCast 64 n
  have e3 : m * 256 ||| n = m * 256 + n := by
    have := Nat.shiftLeft_add_eq_or_of_lt (i := 8) (b := n) (by omega) m
    rw [Nat.shiftLeft_eq] at this
    exact this.symm
  have e4 : bits .or .i64 (((m : Nat) : Int) * 256) ((n : Nat) : Int) = IntKind.i64.wrap (((BitVec.ofInt 64 (((m : Nat) : Int) * 256) ||| BitVec.ofInt 64 ((n : Nat) : Int)).toNat : Nat) : Int) := rfl
  rw [e4, e1, e2, BitVec.toNat_or, BitVec.toNat_ofNat, BitVec.toNat_ofNat, Nat.mod_eq_of_lt (by omega), Nat.mod_eq_of_lt (by omega), e3]
  rw [wrap_fits (by simp only [fits]; omega)]
  omega

theorem wput_any (b : Nat) (x : WS) (t : ByteArray) (right : Bool) (er : Int) (ht : t.size ≤ 9000000000000000000) (w : World) (hx : x.1.size ≤ 1000000000) (hA : HA.ok w (.cells b [.string (x).1, .int .i64 (x).2])) :
  Calls Tryz.prog 95 #[.pointer (some ⟨b, 0, none⟩), .string t, .bool right, .int .i64 er] w fun e w' => e = .returned (.tuple #[]) ∧ Upd w w' (.cells b [.string (x).1, .int .i64 (x).2]) (.cells b [.string (wPut x t right er).1, .int .i64 (wPut x t right er).2]) := by
 refine calls_of (n := 28) (E := [(0, .pointer (some ⟨b, 0, none⟩)), (1, .string t), (2, .bool right), (3, .int .i64 er)]) (W := Hp w [b] [.cells b [.string (x).1, .int .i64 (x).2]]) Tryz.func95 rfl rfl (Nat.le_of_ble_eq_true rfl) rfl (Hp.start rfl hA) ?_; refine jc_block ?_; refine jsr ?_; refine jz ?_; refine jl_bool (fun h9 => ?_) (fun h9 => ?_)
 ·skip
  refine jz ?_; refine jnt ?_; refine jc_true rfl ?_; refine jc_region ?_; (iterate 5 refine jz ?_); refine jy (y_concat rfl rfl (by omega)) ?_; (iterate 2 refine jz ?_); refine jst ?_; refine jl_nil ?_; refine jq_block ?_; refine jq_end0 rfl ?_; exact fun w' hw => ⟨rfl, by rw [h9, wPut_yes]; exact hw.updd rfl⟩
 ·skip
  refine jz ?_; refine jnt ?_; refine jc_false rfl ?_; refine jsr ?_; (iterate 4 refine jz ?_); refine jy (y_eql rfl rfl) ?_; refine jl_prop (fun h23 => ?_) (fun h23 => ?_)
  ·first | (exfalso; omega) | (refine jz ?_; refine jnt ?_; refine jc_true rfl ?_; refine jc_region ?_; (iterate 4 refine jz ?_); refine jst ?_; refine jl_nil ?_; refine jq_block ?_; refine jq_end0 rfl ?_; exact fun w' hw => ⟨rfl, by rw [h9, wPut_no, failE_zero er (by omega)]; exact hw.updd rfl⟩)
  ·first | (exfalso; omega) | (refine jz ?_; refine jnt ?_; refine jc_false rfl ?_; refine jc_skip ?_; refine jq_block ?_; refine jq_end0 rfl ?_; exact fun w' hw => ⟨rfl, by rw [h9, wPut_no, failE_old er (by omega)]; exact hw.updd rfl⟩)

theorem wbyte_any (b : Nat) (x : WS) (n : Int) (hn : fits .i64 n) (w : World) (hx : x.1.size ≤ 1000000000) (hA : HA.ok w (.cells b [.string (x).1, .int .i64 (x).2])) :
  Calls Tryz.prog 70 #[.pointer (some ⟨b, 0, none⟩), .int .i64 n] w fun e w' => e = .returned (.tuple #[]) ∧ Upd w w' (.cells b [.string (x).1, .int .i64 (x).2]) (.cells b [.string (wByte x n).1, .int .i64 (wByte x n).2]) := by
 refine calls_of (n := 16) (E := [(0, .pointer (some ⟨b, 0, none⟩)), (1, .int .i64 n)]) (W := Hp w [b] [.cells b [.string (x).1, .int .i64 (x).2]]) Tryz.func70 rfl rfl (Nat.le_of_ble_eq_true rfl) rfl (Hp.start rfl hA) ?_; refine jc_region ?_; (iterate 2 refine jz ?_); refine jy (y_conv_u8 rfl) ?_; refine jl_m rfl (by decide) rfl (m_buildSlice (by decide) (Built.cell rfl rfl rfl (by repeat constructor) Built.nil)) (fun b7 => ?_); refine jy (y_str_own rfl (by first | exact mem0 | exact mem1 | exact mem2 | exact mem3 | exact mem4 | exact mem5) (by repeat constructor)) ?_; refine jl_as (u := .string (oneB n)) rfl ?_; refine jz ?_; refine jy (y_geq rfl rfl) ?_; refine jl_prop (fun h10 => ?_) (fun h10 => ?_)
 ·first | (exfalso; omega) | ((iterate 2 refine jz ?_); refine jy (y_leq rfl rfl) ?_; refine jy (y_pick_true rfl rfl) ?_; refine jl_as (u := .bool (decide (0 ≤ n ∧ n ≤ 255))) (congrArg Value.bool (by first | exact dec_and.1 (by assumption) | exact dec_and.2 (by assumption))) ?_; refine juc (goes_func rfl) (fun w1 hw1 => wput_any b x (oneB n) (decide (0 ≤ n ∧ n ≤ 255)) 1 (by rw [oneB_size]; decide) w1 hx hw1) ?_; refine jl_nil ?_; refine jq_end0 rfl ?_; exact fun w' hw => ⟨rfl, (hw.part (.cons del1 .nil)).updd rfl⟩)
 ·first | (exfalso; omega) | (refine jz ?_; (iterate 2 refine jsk ?_); refine jy (y_pick_false rfl rfl) ?_; refine jl_as (u := .bool (decide (0 ≤ n ∧ n ≤ 255))) (congrArg Value.bool (by first | exact dec_and.1 (by assumption) | exact dec_and.2 (by assumption))) ?_; refine juc (goes_func rfl) (fun w1 hw1 => wput_any b x (oneB n) (decide (0 ≤ n ∧ n ≤ 255)) 1 (by rw [oneB_size]; decide) w1 hx hw1) ?_; refine jl_nil ?_; refine jq_end0 rfl ?_; exact fun w' hw => ⟨rfl, (hw.part (.cons del1 .nil)).updd rfl⟩)

theorem wnum_any (b : Nat) (x : WS) (n : Int) (hn : fits .u64 n) (w : World) (hx : x.1.size ≤ 1000000000) (hA : HA.ok w (.cells b [.string (x).1, .int .i64 (x).2])) :
  Calls Tryz.prog 73 #[.pointer (some ⟨b, 0, none⟩), .int .u64 n] w fun e w' => e = .returned (.tuple #[]) ∧ Upd w w' (.cells b [.string (x).1, .int .i64 (x).2]) (.cells b [.string (wNum x n).1, .int .i64 (wNum x n).2]) := by
 refine calls_of (n := 8) (E := [(0, .pointer (some ⟨b, 0, none⟩)), (1, .int .u64 n)]) (W := Hp w [b] [.cells b [.string (x).1, .int .i64 (x).2]]) Tryz.func73 rfl rfl (Nat.le_of_ble_eq_true rfl) rfl (Hp.start rfl hA) ?_; refine jc_region ?_; (iterate 2 refine jz ?_); refine jpc (goes_func rfl) (fun w1 hw1 => put_any _ w1 (by simp only [fits] at *; omega)) ?_; refine juc (goes_func rfl) (fun w1 hw1 => wput_any b x (putS n) (true) 0 (by rw [putS_size]; decide) w1 hx hw1) ?_; refine jl_nil ?_; refine jq_end0 rfl ?_; exact fun w' hw => ⟨rfl, hw.updd rfl⟩

theorem wblob_any (b : Nat) (x : WS) (t : ByteArray) (ht : t.size ≤ 1000000000) (w : World) (hx : x.1.size ≤ 1000000000) (hA : HA.ok w (.cells b [.string (x).1, .int .i64 (x).2])) :
  Calls Tryz.prog 71 #[.pointer (some ⟨b, 0, none⟩), .string t] w fun e w' => e = .returned (.tuple #[]) ∧ Upd w w' (.cells b [.string (x).1, .int .i64 (x).2]) (.cells b [.string (wBlob x t).1, .int .i64 (wBlob x t).2]) := by
 refine calls_of (n := 20) (E := [(0, .pointer (some ⟨b, 0, none⟩)), (1, .string t)]) (W := Hp w [b] [.cells b [.string (x).1, .int .i64 (x).2]]) Tryz.func71 rfl rfl (Nat.le_of_ble_eq_true rfl) rfl (Hp.start rfl hA) ?_; refine jsr ?_; refine jz ?_; refine jy (y_len_str rfl) ?_; refine jz ?_; refine jnt ?_; refine jc_region ?_; (iterate 2 refine jz ?_); refine jy (y_shr_by (m := 256) rfl rfl (by decide) (by decide) (by decide)) ?_; refine jy (y_conv_u8 rfl) ?_; refine jz ?_; refine jy (y_conv_u8 rfl) ?_; refine jl_m rfl (by decide) rfl (m_buildSlice (by decide) (Built.cell rfl rfl rfl (by repeat constructor) (Built.cell rfl rfl rfl (by repeat constructor) Built.nil))) (fun b13 => ?_); refine jy (y_str_own rfl (by first | exact mem0 | exact mem1 | exact mem2 | exact mem3 | exact mem4 | exact mem5) (by repeat constructor)) ?_; refine jz ?_; refine jy (y_concat rfl rfl (by rw [strOfNums_size]; show 2 + _ ≤ _; omega)) ?_; refine jl_as (u := .string (partS t)) rfl ?_; refine jz ?_; refine jy (y_leq rfl rfl) ?_; refine jl_as (u := .bool (decide (t.size ≤ 4096))) (congrArg Value.bool (by rw [decide_eq_decide]; omega)) ?_; refine juc (goes_func rfl) (fun w1 hw1 => wput_any b x (partS t) (decide (t.size ≤ 4096)) 5 (by rw [partS_size']; omega) w1 hx hw1) ?_; refine jl_nil ?_; refine jq_end0 rfl ?_; exact fun w' hw => ⟨rfl, (hw.part (.cons (by first | exact del1 | exact del0) .nil)).updd rfl⟩

theorem wtext_any (b : Nat) (x : WS) (w : World) (h0 : CellAt w b 0 (.string x.1)) (h1 : CellAt w b 1 (.int .i64 x.2)) :
  Calls Tryz.prog 74 #[.pointer (some ⟨b, 0, none⟩)] w fun e w' => e = .returned (.string (wText x)) ∧ Ch [] w w' := by
 refine calls_of (n := 12) (E := [(0, .pointer (some ⟨b, 0, none⟩))]) (W := Hp w [] []) Tryz.func74 rfl rfl (Nat.le_of_ble_eq_true rfl) rfl (Hp.nil _ _) ?_; refine jsr ?_; refine jz ?_; refine jnt ?_; refine jc_seq ?_; refine jsr ?_; (iterate 3 refine jz ?_); refine jy (y_load_old rfl h1 (by simp)) ?_; refine jy (y_neq rfl rfl) ?_; refine jl_prop (fun h7 => ?_) (fun h7 => ?_)
 ·first | (exfalso; omega) | (refine jnt ?_; refine jc_true rfl ?_; refine jsr ?_; refine jz ?_; refine jnt ?_; refine jc_ret ?_; refine jq_then_ret ?_; refine jq_ret1 rfl rfl ?_; exact fun _ hw => ⟨by unfold wText; rw [if_neg (by omega)], hw.ch⟩)
 ·first | (exfalso; omega) | (refine jnt ?_; refine jc_false rfl ?_; refine jc_skip ?_; refine jq_then ?_; refine jsr ?_; (iterate 3 refine jz ?_); refine jy (y_load_old rfl h0 (by simp)) ?_; refine jz ?_; refine jnt ?_; refine jc_ret ?_; refine jq_ret1 rfl rfl ?_; exact fun _ hw => ⟨by unfold wText; rw [if_pos (by omega)], hw.ch⟩)

theorem rwfail_any (b : Nat) (x : WS) (er : Int) (w : World) (hx : x.1.size ≤ 1000000000) (hA : HA.ok w (.cells b [.string (x).1, .int .i64 (x).2])) :
  Calls Tryz.prog 124 #[.pointer (some ⟨b, 0, none⟩), .int .i64 er] w fun e w' => e = .returned (.tuple #[]) ∧ Upd w w' (.cells b [.string (x).1, .int .i64 (x).2]) (.cells b [.string ((x.1, failE x.2 er)).1, .int .i64 ((x.1, failE x.2 er)).2]) := by
 refine calls_of (n := 13) (E := [(0, .pointer (some ⟨b, 0, none⟩)), (1, .int .i64 er)]) (W := Hp w [b] [.cells b [.string (x).1, .int .i64 (x).2]]) Tryz.func124 rfl rfl (Nat.le_of_ble_eq_true rfl) rfl (Hp.start rfl hA) ?_; refine jsr ?_; (iterate 4 refine jz ?_); refine jy (y_eql rfl rfl) ?_; refine jl_prop (fun h8 => ?_) (fun h8 => ?_)
 ·first | (exfalso; omega) | (refine jnt ?_; refine jc_true rfl ?_; refine jc_region ?_; (iterate 4 refine jz ?_); refine jst ?_; refine jl_nil ?_; refine jq_end0 rfl ?_; exact fun w' hw => ⟨rfl, by rw [failE_zero er (by omega)]; exact hw.updd rfl⟩)
 ·first | (exfalso; omega) | (refine jnt ?_; refine jc_false rfl ?_; refine jc_skip ?_; refine jq_end0 rfl ?_; exact fun w' hw => ⟨rfl, by rw [failE_old er (by omega)]; exact hw.updd rfl⟩)

theorem rwbyte_any (b : Nat) (x : WS) (n : Int) (hn : fits .i64 n) (w : World) (hx : x.1.size ≤ 1000000000) (hA : HA.ok w (.cells b [.string (x).1, .int .i64 (x).2])) :
  Calls Tryz.prog 105 #[.pointer (some ⟨b, 0, none⟩), .int .i64 n] w fun e w' => e = .returned (.tuple #[]) ∧ Upd w w' (.cells b [.string (x).1, .int .i64 (x).2]) (.cells b [.string (wByte x n).1, .int .i64 (wByte x n).2]) := by
 refine calls_of (n := 23) (E := [(0, .pointer (some ⟨b, 0, none⟩)), (1, .int .i64 n)]) (W := Hp w [b] [.cells b [.string (x).1, .int .i64 (x).2]]) Tryz.func105 rfl rfl (Nat.le_of_ble_eq_true rfl) rfl (Hp.start rfl hA) ?_; refine jc_seq ?_; refine jsr ?_; refine jz ?_; refine jy (y_lss rfl rfl) ?_; refine jl_prop (fun h5 => ?_) (fun h5 => ?_)
 ·first | (exfalso; omega) | (refine jz ?_; (iterate 2 refine jsk ?_); refine jy (y_pick_true rfl rfl) ?_; refine jnt ?_; refine jc_true rfl ?_; refine jsr ?_; refine jz ?_; refine juc (goes_func rfl) (fun w1 hw1 => rwfail_any b x 1 w1 hx hw1) ?_; refine jnt ?_; refine jc_ret ?_; refine jq_then_ret ?_; refine jq_ret0 rfl  ?_; exact fun w' hw => ⟨rfl, by rw [wByte_no (by omega)]; exact hw.updd rfl⟩)
 ·first | (exfalso; omega) | (
   (iterate 2 refine jz ?_); refine jy (y_gtr rfl rfl) ?_; refine jl_prop (fun h8 => ?_) (fun h8 => ?_)
   ·first | (exfalso; omega) | (refine jy (y_pick_false rfl rfl) ?_; refine jnt ?_; refine jc_true rfl ?_; refine jsr ?_; refine jz ?_; refine juc (goes_func rfl) (fun w1 hw1 => rwfail_any b x 1 w1 hx hw1) ?_; refine jnt ?_; refine jc_ret ?_; refine jq_then_ret ?_; refine jq_ret0 rfl  ?_; exact fun w' hw => ⟨rfl, by rw [wByte_no (by omega)]; exact hw.updd rfl⟩)
   ·first | (exfalso; omega) | (
     refine jy (y_pick_false rfl rfl) ?_; refine jnt ?_; refine jc_false rfl ?_; refine jc_skip ?_; refine jq_then ?_; refine jc_sched 11 [(0, true), (1, true), (2, true), (3, true), (4, true), (5, true), (6, false), (7, false), (8, true), (9, true), (10, true)] rfl (by kernel_rfl) (fun _ _ _ _ h => h) (fun _ h => h.drew) ?_
     simp only [pickO, nthO, List.drop_succ_cons, List.drop_zero]
     (iterate 5 refine jkz ?_); refine jky (y_conv_u8 rfl) ?_; refine js_m (by intros; rename_i h; first | exact h | exact h.pop | exact h.pop.pop | exact h.pop.pop.pop | exact h.pop.pop.pop.pop | exact h.pop.pop.pop.pop.pop | exact h.pop.pop.pop.pop.pop.pop | exact h.part .nil) rfl (by decide) rfl (m_buildSlice (by decide) (Built.cell rfl rfl rfl (by repeat constructor) Built.nil)) (fun b18 => ?_); refine js_y (by intro _ h; first | exact h | exact h.pop | exact h.pop.pop | exact h.pop.pop.pop | exact h.pop.pop.pop.pop | exact h.pop.pop.pop.pop.pop | exact h.pop.pop.pop.pop.pop.pop | exact h.part .nil) rfl (by decide) rfl (y_str_own rfl (by first | exact mem0 | exact mem1 | exact mem2 | exact mem3 | exact mem4 | exact mem5) (by repeat constructor)) ?_; refine js_as (u := .string (oneB n)) rfl ?_; refine jky (y_concat rfl rfl (by rw [oneB_size]; omega)) ?_; (iterate 2 refine jkz ?_); refine js_nil ?_; refine jst ?_; refine jl_nil ?_; refine jq_end0 rfl ?_; exact fun w' hw => ⟨rfl, by rw [wByte_yes (by omega)]; exact (hw.part (.cons (by first | exact del0 | exact del1) .nil)).updd rfl⟩
     )
   )

theorem rwnum_any (b : Nat) (x : WS) (n : Int) (hn : fits .u64 n) (w : World) (hx : x.1.size ≤ 1000000000) (hA : HA.ok w (.cells b [.string (x).1, .int .i64 (x).2])) :
  Calls Tryz.prog 107 #[.pointer (some ⟨b, 0, none⟩), .int .u64 n] w fun e w' => e = .returned (.tuple #[]) ∧ Upd w w' (.cells b [.string (x).1, .int .i64 (x).2]) (.cells b [.string (wNum x n).1, .int .i64 (wNum x n).2]) := by
 refine calls_of (n := 13) (E := [(0, .pointer (some ⟨b, 0, none⟩)), (1, .int .u64 n)]) (W := Hp w [b] [.cells b [.string (x).1, .int .i64 (x).2]]) Tryz.func107 rfl rfl (Nat.le_of_ble_eq_true rfl) rfl (Hp.start rfl hA) ?_; refine jc_tail 9 (by kernel_rfl) (fun _ h => h.drew) ?_
 simp only [List.take_succ_cons, List.take_zero, List.drop_succ_cons, List.drop_zero]
 (iterate 5 refine jtz ?_); refine jt_call rfl (by decide) rfl (goes_func rfl) (fun w1 hw1 => pcall hw1 (rput_any _ w1 (by simp only [fits] at *; omega))) ?_; refine jty (y_concat rfl rfl (by rw [putS_size]; omega)) ?_; (iterate 2 refine jtz ?_); refine jt_nil ?_; refine jst ?_; refine jl_nil ?_; refine jq_end0 rfl ?_; exact fun w' hw => ⟨rfl, hw.updd rfl⟩

theorem rwblob_any (b : Nat) (x : WS) (t : ByteArray) (ht : t.size ≤ 1000000000) (w : World) (hx : x.1.size ≤ 1000000000) (hA : HA.ok w (.cells b [.string (x).1, .int .i64 (x).2])) :
  Calls Tryz.prog 106 #[.pointer (some ⟨b, 0, none⟩), .string t] w fun e w' => e = .returned (.tuple #[]) ∧ Upd w w' (.cells b [.string (x).1, .int .i64 (x).2]) (.cells b [.string (wBlob x t).1, .int .i64 (wBlob x t).2]) := by
 refine calls_of (n := 28) (E := [(0, .pointer (some ⟨b, 0, none⟩)), (1, .string t)]) (W := Hp w [b] [.cells b [.string (x).1, .int .i64 (x).2]]) Tryz.func106 rfl rfl (Nat.le_of_ble_eq_true rfl) rfl (Hp.start rfl hA) ?_; refine jc_seq ?_; refine jsr ?_; refine jz ?_; refine jy (y_len_str rfl) ?_; refine jy (y_gtr rfl rfl) ?_; refine jl_prop (fun h6 => ?_) (fun h6 => ?_)
 ·first | (exfalso; omega) | (refine jnt ?_; refine jc_true rfl ?_; refine jsr ?_; refine jz ?_; refine juc (goes_func rfl) (fun w1 hw1 => rwfail_any b x 5 w1 hx hw1) ?_; refine jnt ?_; refine jc_ret ?_; refine jq_then_ret ?_; refine jq_ret0 rfl  ?_; exact fun w' hw => ⟨rfl, by rw [wBlob_no (by omega)]; exact hw.updd rfl⟩)
 ·first | (exfalso; omega) | (
   refine jnt ?_; refine jc_false rfl ?_; refine jc_skip ?_; refine jq_then ?_; refine jc_sched 19 [(0, true), (1, true), (2, true), (3, true), (4, true), (5, true), (6, true), (7, true), (8, true), (9, true), (10, true), (11, true), (14, true), (12, false), (13, false), (15, true), (16, true), (17, true), (18, true)] rfl (by kernel_rfl) (fun _ _ _ _ h => h) (fun _ h => h.drew) ?_
   simp only [pickO, nthO, List.drop_succ_cons, List.drop_zero]
   (iterate 5 refine jkz ?_); refine jky (y_len_str rfl) ?_; refine jky (y_quo rfl rfl (by omega) (by omega) (by simp only [fits]; omega)) ?_; refine jky (y_conv_u8 rfl) ?_; refine jkz ?_; refine jky (y_len_str rfl) ?_; refine jky (y_rem rfl rfl (by omega) (by omega)) ?_; refine jky (y_conv_u8 rfl) ?_; refine jkz ?_; refine js_m (by intros; rename_i h; first | exact h | exact h.pop | exact h.pop.pop | exact h.pop.pop.pop | exact h.pop.pop.pop.pop | exact h.pop.pop.pop.pop.pop | exact h.pop.pop.pop.pop.pop.pop | exact h.part .nil) rfl (by decide) rfl (m_buildSlice (by decide) (Built.cell rfl rfl rfl (by repeat constructor) (Built.cell rfl rfl rfl (by repeat constructor) Built.nil))) (fun b21 => ?_); refine js_y (by intro _ h; first | exact h | exact h.pop | exact h.pop.pop | exact h.pop.pop.pop | exact h.pop.pop.pop.pop | exact h.pop.pop.pop.pop.pop | exact h.pop.pop.pop.pop.pop.pop | exact h.part .nil) rfl (by decide) rfl (y_str_own rfl (by first | exact mem0 | exact mem1 | exact mem2 | exact mem3 | exact mem4 | exact mem5) (by repeat constructor)) ?_; refine jky (y_concat rfl rfl (by rw [strOfNums_size]; show 2 + _ ≤ _; omega)) ?_; refine js_as (u := .string (partS t)) (congrArg Value.string (by unfold partS; congr 2 <;> congr 2 <;> omega)) ?_; refine jky (y_concat rfl rfl (by rw [partS_size']; omega)) ?_; (iterate 2 refine jkz ?_); refine js_nil ?_; refine jst ?_; refine jl_nil ?_; refine jq_end0 rfl ?_; exact fun w' hw => ⟨rfl, by rw [wBlob_yes (by omega)]; exact (hw.part (.cons (by first | exact del0 | exact del1) .nil)).updd rfl⟩
   )

theorem rwtext_any (b : Nat) (x : WS) (w : World) (h0 : CellAt w b 0 (.string x.1)) (h1 : CellAt w b 1 (.int .i64 x.2)) :
  Calls Tryz.prog 108 #[.pointer (some ⟨b, 0, none⟩)] w fun e w' => e = .returned (.string (wText x)) ∧ Ch [] w w' := by
 refine calls_of (n := 12) (E := [(0, .pointer (some ⟨b, 0, none⟩))]) (W := Hp w [] []) Tryz.func108 rfl rfl (Nat.le_of_ble_eq_true rfl) rfl (Hp.nil _ _) ?_; refine jsr ?_; refine jz ?_; refine jnt ?_; refine jc_seq ?_; refine jsr ?_; (iterate 3 refine jz ?_); refine jy (y_load_old rfl h1 (by simp)) ?_; refine jy (y_neq rfl rfl) ?_; refine jl_prop (fun h7 => ?_) (fun h7 => ?_)
 ·first | (exfalso; omega) | (refine jnt ?_; refine jc_true rfl ?_; refine jsr ?_; refine jz ?_; refine jnt ?_; refine jc_ret ?_; refine jq_then_ret ?_; refine jq_ret1 rfl rfl ?_; exact fun _ hw => ⟨by unfold wText; rw [if_neg (by omega)], hw.ch⟩)
 ·first | (exfalso; omega) | (refine jnt ?_; refine jc_false rfl ?_; refine jc_skip ?_; refine jq_then ?_; refine jsr ?_; (iterate 3 refine jz ?_); refine jy (y_load_old rfl h0 (by simp)) ?_; refine jz ?_; refine jnt ?_; refine jc_ret ?_; refine jq_ret1 rfl rfl ?_; exact fun _ hw => ⟨by unfold wText; rw [if_pos (by omega)], hw.ch⟩)

end Go.Proofs.YtghomncegjamfaaGreat

namespace Go.Proofs.YtghomncegjamfaaGreat
open Go.RowKit
set_option maxRecDepth 100000
set_option linter.unusedVariables false
set_option linter.unusedSimpArgs false
attribute [local irreducible] Yields Makes Writes
theorem bt_empty : head ⟨#[]⟩ = 0 ∧ getV ⟨#[]⟩ = 0 ∧ two ⟨#[]⟩ = 0 := ⟨rfl, rfl, rfl⟩
theorem not_both {a b : Prop} (h : ¬ (a ∧ b)) (hb : b) : ¬ a := fun ha => h ⟨ha, hb⟩
theorem ne_size {s : ByteArray} (h : ¬ s = ⟨#[]⟩) : 0 < s.size := by
  rcases Nat.eq_zero_or_pos s.size with h1 | h1
  · exact absurd (ByteArray.size_eq_zero_iff.1 h1) h
  · exact h1
theorem eq_size {s : ByteArray} (h : s = ⟨#[]⟩) : s.size = 0 := by rw [h]; rfl
theorem ext_size {S : ByteArray} {a : Nat} (h : a ≤ S.size) : (S.extract a S.size).size = S.size - a := by rw [ByteArray.size_extract]; omega
theorem ext_none {S : ByteArray} {a : Nat} (h : a ≤ S.size) : S.extract a S.size = ⟨#[]⟩ ↔ ¬ a < S.size := ⟨fun e => by have := eq_size e; rw [ext_size h] at this; omega, fun h2 => Decidable.byContradiction fun h3 => by have := ne_size h3; rw [ext_size h] at this; omega⟩
theorem lenV_two (S : ByteArray) (x : RS) : ((lenV S x : Nat) : Int) = two (tkV S x 2) := by have := two_range (tkV S x 2); unfold lenV; omega

end Go.Proofs.YtghomncegjamfaaGreat

namespace Go.Proofs.YtghomncegjamfaaGreat
open Go.RowKit
set_option maxRecDepth 100000
set_option linter.unusedVariables false
set_option linter.unusedSimpArgs false
attribute [local irreducible] Yields Makes Writes
/-- An element of those that came in, or that were told. -/
theorem ElAt.get {α : Type} {w : World} {ad : Option Addr} {sz : Nat} {l : List α} {c : α → List Value} (h : ElAt w ad sz (l.map c)) {i : Nat} (hi : i < l.length) : ∃ b o, ad = some ⟨b, o, none⟩ ∧ Old w b (o + i * sz) (c l[i]) :=
  h i (c l[i]) (by rw [List.getElem?_map, List.getElem?_eq_getElem hi]; rfl)
theorem all_take {α : Type} {l : List α} {P : α → Prop} {i : Nat} (h : i < l.length) (hp : ∀ z ∈ l.take i, P z) (hx : P l[i]) : ∀ z ∈ l.take (i + 1), P z := by
  rw [List.take_succ_eq_append_getElem h]
  intro z hz
  rcases List.mem_append.1 hz with h1 | h1
  · exact hp z h1
  · rw [List.mem_singleton.1 h1]; exact hx
theorem wle0 {x : WS} {K : Nat} (h : x.1.size + 0 ≤ K) : x.1.size ≤ K := h
theorem wz {x : WS} {K : Nat} (h : x.1.size ≤ K := by refine wle0 ?_; (repeat (first | with_reducible apply wle_nums | with_reducible apply wle_wins | with_reducible apply wle_num | with_reducible apply wle_byte | with_reducible apply wle_blob | with_reducible apply wle_hash)); first | decide | omega | (have hw00 : w0.1.size = 0 := rfl; simp only [List.length_cons, List.length_nil]; omega)) : x.1.size ≤ K := h
theorem wle32 {x : WS} {K : Nat} (h : x.1.size + 32 ≤ K) : x.1.size + 8 * 4 ≤ K := h
theorem flat_get {α : Type} {c : α → List Value} {sz : Nat} (hc : ∀ x, (c x).length = sz) : ∀ (l : List α) (i j : Nat) (h : i < l.length), j < sz → (l.flatMap c)[i * sz + j]? = (c l[i])[j]?
  | [], i, j, h, _ => absurd h (by simp)
  | x :: l, 0, j, h, hj => by
    rw [List.flatMap_cons, List.getElem?_append_left (by rw [hc]; omega)]
    simp
  | x :: l, i + 1, j, h, hj => by
    have h1 := flat_get hc l i j (by simpa using h) hj
    rw [List.flatMap_cons, List.getElem?_append_right (by rw [hc, Nat.succ_mul]; omega), hc, show (i + 1) * sz + j - sz = i * sz + j by rw [Nat.succ_mul]; omega, h1]
    rfl
theorem ElAt.of_row {α : Type} {c : α → List Value} {w : World} {ad : Option Addr} {m cap e sz : Nat} {l : List α} (hc : ∀ x, (c x).length = sz) (hm : m = l.length) (h : HA.ok w (.row ad m cap e sz (l.flatMap c))) : ElAt w ad sz (l.map c) := by
  intro i cs hi
  subst hm
  have hlt : i < l.length := by have := (List.getElem?_eq_some_iff.1 hi).1; simpa using this
  rw [List.getElem?_map, List.getElem?_eq_getElem hlt] at hi
  cases hi
  obtain ⟨b, rfl⟩ := row_some h (by omega)
  refine ⟨b, 0, rfl, fun j u hj => ?_⟩
  have hjl : j < sz := by have := (List.getElem?_eq_some_iff.1 hj).1; rwa [hc] at this
  rw [Nat.zero_add]
  exact row_cell h (by rw [flat_get hc l i j hlt hjl]; exact hj)
theorem wn_no1 {x : Wn} (h : tkMay x.t = false) : wnMay x = false := by simp [wnMay, h]
theorem wn_no2 {x : Wn} (h : 32 < x.salt.size) : wnMay x = false := by simp [wnMay, h]
theorem right_no {p : Pf} {x : Wn} {i : Nat} (hi : i < p.wins.length) (hx : p.wins[i] = x) (h : wnMay x = false) : false = pfRight p := by
  rw [eq_comm, Bool.eq_false_iff]
  intro hr
  have h1 := (pfRight_iff.1 hr).1 x (hx ▸ List.getElem_mem hi)
  rw [h] at h1
  exact absurd h1 (by decide)

theorem eq_tk (m : Nat) (x y : Tk) (w : World) : (Op.equalIn (m + 2) 34 (.agg (Tk.c x).toArray) (.agg (Tk.c y).toArray)).run Tryz.prog w = .ok (decide (x = y)) w := by
  rw [run_equalIn_agg _ _ 34 _ _ (by kernel_rfl) (by kernel_rfl), show (Program.fieldsOf Tryz.prog 34).toList = [((fsOf (Tryz.prog.underlying 34)).getD 0 default), ((fsOf (Tryz.prog.underlying 34)).getD 1 default), ((fsOf (Tryz.prog.underlying 34)).getD 2 default), ((fsOf (Tryz.prog.underlying 34)).getD 3 default), ((fsOf (Tryz.prog.underlying 34)).getD 4 default), ((fsOf (Tryz.prog.underlying 34)).getD 5 default), ((fsOf (Tryz.prog.underlying 34)).getD 6 default), ((fsOf (Tryz.prog.underlying 34)).getD 7 default)] from by kernel_rfl]
  refine Eq.trans (eqF_cell (by kernel_rfl) (T := 9) (by kernel_rfl) (off := 0) (by kernel_rfl) rfl rfl (equalIn_str (m) _ _ w) (eqF_cell (by kernel_rfl) (T := 30) (by kernel_rfl) (off := 1) (by kernel_rfl) rfl rfl (equalIn_int (m) _ _ w) (eqF_cell (by kernel_rfl) (T := 30) (by kernel_rfl) (off := 2) (by kernel_rfl) rfl rfl (equalIn_int (m) _ _ w) (eqF_cell (by kernel_rfl) (T := 30) (by kernel_rfl) (off := 3) (by kernel_rfl) rfl rfl (equalIn_int (m) _ _ w) (eqF_cell (by kernel_rfl) (T := 30) (by kernel_rfl) (off := 4) (by kernel_rfl) rfl rfl (equalIn_int (m) _ _ w) (eqF_cell (by kernel_rfl) (T := 9) (by kernel_rfl) (off := 5) (by kernel_rfl) rfl rfl (equalIn_str (m) _ _ w) (eqF_cell (by kernel_rfl) (T := 30) (by kernel_rfl) (off := 6) (by kernel_rfl) rfl rfl (equalIn_int (m) _ _ w) (eqF_cell (by kernel_rfl) (T := 9) (by kernel_rfl) (off := 7) (by kernel_rfl) rfl rfl (equalIn_str (m) _ _ w) eqF_nil)))))))) ?_
  congr 1
  rw [Bool.eq_iff_iff]
  cases x; cases y
  simp
theorem eq_wn (m : Nat) (x y : Wn) (w : World) : (Op.equalIn (m + 3) 72 (.agg (Wn.c x).toArray) (.agg (Wn.c y).toArray)).run Tryz.prog w = .ok (decide (x = y)) w := by
  rw [run_equalIn_agg _ _ 72 _ _ (by kernel_rfl) (by kernel_rfl), show (Program.fieldsOf Tryz.prog 72).toList = [((fsOf (Tryz.prog.underlying 72)).getD 0 default), ((fsOf (Tryz.prog.underlying 72)).getD 1 default), ((fsOf (Tryz.prog.underlying 72)).getD 2 default)] from by kernel_rfl]
  refine Eq.trans (eqF_agg (by kernel_rfl) (T := 34) (by kernel_rfl) (off := 0) (by kernel_rfl) (by repeat constructor) (by repeat constructor) (eq_tk m x.t y.t w) (eqF_cell (by kernel_rfl) (T := 9) (by kernel_rfl) (off := 8) (by kernel_rfl) rfl rfl (equalIn_str (m + 1) _ _ w) (eqF_cell (by kernel_rfl) (T := 30) (by kernel_rfl) (off := 9) (by kernel_rfl) rfl rfl (equalIn_int (m + 1) _ _ w) eqF_nil))) ?_
  congr 1
  rw [Bool.eq_iff_iff]
  cases x; cases y
  simp
theorem may_any (t : Tk) (w : World) :
  Calls Tryz.prog 75 #[.agg (Tk.c t).toArray] w fun e w' => e = .returned (.bool (tkMay t)) ∧ Ch [] w w' := by
 refine calls_of (n := 19) (E := [(0, .agg (Tk.c t).toArray)]) (W := Hp w [] []) Tryz.func75 rfl rfl (Nat.le_of_ble_eq_true rfl) rfl (Hp.nil _ _) ?_; refine jsr ?_; refine jl_m rfl (by decide) rfl (m_box rfl rfl) (fun b1 => ?_); refine jz ?_; refine jnt ?_; refine jsr ?_; (iterate 2 refine jz ?_); refine jy (y_len_str rfl) ?_; refine jy (y_eql rfl rfl) ?_; refine jl_prop (fun h6 => ?_) (fun h6 => ?_)
 ·first | (exfalso; omega) | (
   (iterate 3 refine jz ?_); refine jy (y_len_str rfl) ?_; refine jy (y_eql rfl rfl) ?_; refine jl_prop (fun h11 => ?_) (fun h11 => ?_)
   ·first | (exfalso; omega) | (refine jy (y_pick_true rfl rfl) ?_; (iterate 3 refine jz ?_); refine jy (y_len_str rfl) ?_; refine jy (y_leq rfl rfl) ?_; refine jy (y_pick_true rfl rfl) ?_; refine jz ?_; refine jnt ?_; refine jc_ret ?_; refine jq_ret1 rfl rfl ?_; exact fun _ hw => ⟨congrArg (fun b => Ending.returned (Value.bool b)) (by unfold tkMay; rw [Bool.eq_iff_iff]; simp only [Bool.and_eq_true, decide_eq_true_eq, Bool.false_eq_true, false_iff, true_iff]; omega), hw.ch⟩)
   ·first | (exfalso; omega) | (refine jy (y_pick_true rfl rfl) ?_; refine jz ?_; (iterate 4 refine jsk ?_); refine jy (y_pick_false rfl rfl) ?_; refine jz ?_; refine jnt ?_; refine jc_ret ?_; refine jq_ret1 rfl rfl ?_; exact fun _ hw => ⟨congrArg (fun b => Ending.returned (Value.bool b)) (by unfold tkMay; rw [Bool.eq_iff_iff]; simp only [Bool.and_eq_true, decide_eq_true_eq, Bool.false_eq_true, false_iff, true_iff]; omega), hw.ch⟩)
   )
 ·first | (exfalso; omega) | (refine jz ?_; (iterate 4 refine jsk ?_); refine jy (y_pick_false rfl rfl) ?_; refine jz ?_; (iterate 4 refine jsk ?_); refine jy (y_pick_false rfl rfl) ?_; refine jz ?_; refine jnt ?_; refine jc_ret ?_; refine jq_ret1 rfl rfl ?_; exact fun _ hw => ⟨congrArg (fun b => Ending.returned (Value.bool b)) (by unfold tkMay; rw [Bool.eq_iff_iff]; simp only [Bool.and_eq_true, decide_eq_true_eq, Bool.false_eq_true, false_iff, true_iff]; omega), hw.ch⟩)

theorem nums_any (b a c : Nat) (x : WS) (l : List Int) (w : World) (hf : ∀ n ∈ l, fits .u64 n) (hx : x.1.size + 8 * l.length ≤ 1000000000) (hL : Old w a 0 (l.map (Value.int .u64))) (hab : a ≠ b) (hA : HA.ok w (.cells b [.string (x).1, .int .i64 (x).2])) :
  Calls Tryz.prog 72 #[.pointer (some ⟨b, 0, none⟩), .slice (some ⟨a, 0, none⟩) l.length c] w fun e w' => e = .returned (.tuple #[]) ∧ Upd w w' (.cells b [.string (x).1, .int .i64 (x).2]) (.cells b [.string (wNums x l).1, .int .i64 (wNums x l).2]) := by
 refine calls_of (n := 16) (E := [(0, .pointer (some ⟨b, 0, none⟩)), (1, .slice (some ⟨a, 0, none⟩) l.length c)]) (W := Hp w [b] [.cells b [.string (x).1, .int .i64 (x).2]]) Tryz.func72 rfl rfl (Nat.le_of_ble_eq_true rfl) rfl (Hp.start rfl hA) ?_; refine jsr ?_; refine jz ?_; refine jy (y_len_slice rfl) ?_; refine jz ?_; refine jnt ?_; refine jc_block ?_; refine jc_loop (fun (i : Nat) => [(0, .pointer (some ⟨b, 0, none⟩)), (6, .slice (some ⟨a, 0, none⟩) l.length c), (7, .int .i64 l.length), (8, .int .i64 (i : Nat))]) (fun (i : Nat) => fun w' => i ≤ l.length ∧ Hp w [b] [.cells b [.string (wNums x (l.take i)).1, .int .i64 (wNums x (l.take i)).2]] w') (fun (i : Nat) => l.length - i) 0 ?_ ?_ ?_
 ·exact ⟨rfl, rfl, rfl, rfl, trivial⟩
 ·exact fun _ h => ⟨by omega, h⟩
 ·intro i
  refine jc_and (fun hi => ?_); refine jsr ?_; refine jy (y_lss rfl rfl) ?_; refine jl_prop (fun h9 => ?_) (fun h9 => ?_)
  ·first | (exfalso; omega) | (
    have hlt : i < l.length := by omega
    have hld := hL.at i hlt
    have hfn : fits .u64 (l.getD i 0) := hf _ (by rw [List.getD_eq_getElem?_getD, List.getElem?_eq_getElem hlt]; exact List.getElem_mem hlt)
    have hsz := wle_nums (l := l.take i) (x := x) (a := 0) (K := 1000000000) (by rw [List.length_take]; omega)
    refine jnt ?_; refine jc_seq ?_; refine jc_true rfl ?_; refine jc_skip ?_; refine jq_then ?_; refine jc_seq ?_; refine jc_block ?_; refine jsr ?_; refine jy (y_indexAddr_slice (off := 0 + i) rfl rfl (by omega) (by omega) (by omega)) ?_; refine jy (y_load_old rfl hld (by simpa using hab)) ?_; refine jz ?_; refine jnt ?_; refine jc_region ?_; (iterate 2 refine jz ?_); refine juc (goes_func rfl) (fun w1 hw1 => wnum_any b (wNums x (l.take i)) (l.getD i 0) hfn w1 hsz hw1) ?_; refine jl_nil ?_; refine jq_block ?_; refine jq_then ?_; refine jc_region ?_; refine jy (yaf rfl rfl) ?_; refine jz ?_; refine jl_nil ?_; refine jq_round (i := i) (i + 1) ?_ ?_ ?_
    ·omega
    ·exact ⟨rfl, rfl, rfl, lk_int rfl (by omega), trivial⟩
    ·exact fun _ h => ⟨by omega, h.cast (by rw [wNums_take hlt])⟩
    )
  ·first | (exfalso; omega) | (refine jnt ?_; refine jc_seq ?_; refine jc_false rfl ?_; refine jc_exit ?_; (iterate 2 refine jq_then_exit ?_); refine jq_hit ?_; refine jq_end0 rfl ?_; exact fun w' hw => ⟨rfl, by rw [List.take_of_length_le (by omega)] at hw; exact hw.updd rfl⟩)

theorem text_any (t : Tk) (w : World) (hf : t.Fit) (hc : t.chan.size ≤ 1000000000) (hm : t.commit.size ≤ 1000000000) :
  Calls Tryz.prog 42 #[.agg (Tk.c t).toArray] w fun e w' => e = .returned (.string (tkText t)) ∧ Ch [] w w' := by
 refine calls_of (n := 25) (E := [(0, .agg (Tk.c t).toArray)]) (W := Hp w [] []) Tryz.func42 rfl rfl (Nat.le_of_ble_eq_true rfl) rfl (Hp.nil _ _) ?_; refine jsr ?_; refine jl_m rfl (by decide) rfl (m_box rfl rfl) (fun b1 => ?_); refine jz ?_; refine jnt ?_; refine jsr ?_; refine jl_m rfl (by decide) rfl (m_alloc) (fun b3 => ?_); refine jnt ?_; refine jsr ?_; refine juc (goes_func rfl) (fun w1 hw1 => wbyte_any b3 (w0) (84) (by simp only [fits]; decide) w1 (wz) hw1) ?_; refine jnt ?_; refine jsr ?_; (iterate 2 refine jz ?_); refine juc (goes_func rfl) (fun w1 hw1 => wblob_any b3 (wByte (w0) (84)) (t.chan) (by omega) w1 (wz) hw1) ?_; refine jnt ?_; refine jsr ?_; (iterate 8 refine jz ?_); refine jl_m rfl (by decide) rfl (m_buildSlice (by decide) (Built.cell rfl rfl rfl (by repeat constructor) (Built.cell rfl rfl rfl (by repeat constructor) (Built.cell rfl rfl rfl (by repeat constructor) (Built.cell rfl rfl rfl (by repeat constructor) Built.nil))))) (fun b16 => ?_); refine jl_ucallH rfl (by decide) rfl (goes_func rfl) (by rfl) (fun w1 hw1 => nums_any b3 b16 4 (wBlob (wByte (w0) (84)) (t.chan)) [t.serial, t.face, t.wins, t.many] w1 (by intro n hn; simp only [List.mem_cons, List.not_mem_nil, or_false] at hn; rcases hn with rfl | rfl | rfl | rfl <;> first | exact hf.serial | exact hf.face | exact hf.wins | exact hf.many) (by refine wle32 ?_; (repeat (first | with_reducible apply wle_nums | with_reducible apply wle_num | with_reducible apply wle_byte | with_reducible apply wle_blob | with_reducible apply wle_hash)); first | decide | omega) (Old.of_row (hw1.get mem0)) (fun e => (List.pairwise_cons.1 hw1.apart).1 _ mem0 _ rfl (by rw [e]; rfl)) (hw1.get mem1)) (by first | exact rep0 | exact rep1 | exact rep2 | exact rep3 | exact rep4) ?_; refine jnt ?_; refine jsr ?_; (iterate 2 refine jz ?_); refine juc (goes_func rfl) (fun w1 hw1 => wblob_any b3 (wNums (wBlob (wByte (w0) (84)) (t.chan)) [t.serial, t.face, t.wins, t.many]) (t.commit) (by omega) w1 (wz) hw1) ?_; refine jnt ?_; refine jsr ?_; (iterate 2 refine jz ?_); refine juc (goes_func rfl) (fun w1 hw1 => wnum_any b3 (wBlob (wNums (wBlob (wByte (w0) (84)) (t.chan)) [t.serial, t.face, t.wins, t.many]) (t.commit)) (t.client) hf.client w1 (wz) hw1) ?_; refine jnt ?_; refine jsr ?_; refine jpc (goes_func rfl) (fun w1 hw1 => wtext_any b3 (wNum (wBlob (wNums (wBlob (wByte (w0) (84)) (t.chan)) [t.serial, t.face, t.wins, t.many]) (t.commit)) (t.client)) w1 (CellAt.of_cells (hw1.get (A := .cells b3 [.string (wNum (wBlob (wNums (wBlob (wByte (w0) (84)) (t.chan)) [t.serial, t.face, t.wins, t.many]) (t.commit)) (t.client)).1, .int .i64 (wNum (wBlob (wNums (wBlob (wByte (w0) (84)) (t.chan)) [t.serial, t.face, t.wins, t.many]) (t.commit)) (t.client)).2]) mem1) rfl) (CellAt.of_cells (hw1.get (A := .cells b3 [.string (wNum (wBlob (wNums (wBlob (wByte (w0) (84)) (t.chan)) [t.serial, t.face, t.wins, t.many]) (t.commit)) (t.client)).1, .int .i64 (wNum (wBlob (wNums (wBlob (wByte (w0) (84)) (t.chan)) [t.serial, t.face, t.wins, t.many]) (t.commit)) (t.client)).2]) mem1) rfl)) ?_
 refine jz ?_; refine jnt ?_; refine jc_ret ?_; refine jq_ret1 rfl rfl ?_; exact fun _ hw => ⟨rfl, hw.ch⟩

end Go.Proofs.YtghomncegjamfaaGreat
