/- The walks of package codec, and of what it stands on. Written by program (walk.py) out of a table of contracts and invariants. -/
import Derived.Test.YtghomncegjamfaaMcod
import Derived.Test.YtghomncegjamfaaNu
import Derived.Test.YtghomncegjamfaaJl
namespace Go.Proofs.Ytghomncegjamfaa
open Go.RowKit
set_option maxRecDepth 100000
set_option linter.unusedVariables false
set_option linter.unusedSimpArgs false
attribute [local irreducible] Yields Makes Writes
/-- What a writer's, a reader's block holds. -/
def wC (b : Nat) (x : WS) : HA := .cells b [.string x.1, .int .i64 x.2]
def rC (b : Nat) (S : ByteArray) (x : RS) : HA := .cells b [.string (S.extract x.1 S.size), .int .i64 x.2]
theorem ext_hi {S : ByteArray} {a n : Nat} (h : a + n ≤ S.size) : (S.extract a S.size).extract 0 n = S.extract a (a + n) := by
  apply ints_inj
  rw [ints_extract, ints_extract, ints_extract, List.drop_zero, List.take_drop, List.take_take]
  congr 2
  omega
theorem ext_lo {S : ByteArray} {a n : Nat} (h : a + n ≤ S.size) : (S.extract a S.size).extract n (S.size - a) = S.extract (a + n) S.size := by
  apply ints_inj
  have hl := ints_length S
  rw [ints_extract, ints_extract, ints_extract, List.take_of_length_le (l := ints S) (by omega), List.take_of_length_le (by rw [List.length_drop]; omega), List.drop_drop]
theorem tk_fail {S : ByteArray} {x : RS} {n : Nat} (h : ¬ x.1 + n ≤ S.size) : tkV S x n = ⟨#[]⟩ ∧ tkS S x n = (x.1, failE x.2 3) := by
  by_cases h0 : x.2 = 0
  · rw [failE_zero 3 h0]; exact tk_short h0 h
  · rw [failE_old 3 h0]; exact tk_bad h0
theorem fail_cases (e er : Int) : (e = 0 ∧ failE e er = er) ∨ (e ≠ 0 ∧ failE e er = e) := by
  by_cases h : e = 0
  · exact .inl ⟨h, failE_zero er h⟩
  · exact .inr ⟨h, failE_old er h⟩
theorem dec_and {n : Int} : (0 ≤ n → (decide (n ≤ 255)) = decide (0 ≤ n ∧ n ≤ 255)) ∧ (¬ 0 ≤ n → false = decide (0 ≤ n ∧ n ≤ 255)) :=
  ⟨fun h => by rw [decide_eq_decide]; omega, fun h => by symm; rw [decide_eq_false_iff_not]; omega⟩
theorem two_or (s : ByteArray) : bits .or .i64 ((ints s).getD 0 0 * 256) ((ints s).getD 1 0) = two s := by
  have h1 := ints_getD_range s 0
  have h2 := ints_getD_range s 1
  unfold two
  generalize (ints s).getD 0 0 = a at *
  generalize (ints s).getD 1 0 = b at *
  obtain ⟨m, rfl⟩ := Int.eq_ofNat_of_zero_le h1.1
  obtain ⟨n, rfl⟩ := Int.eq_ofNat_of_zero_le h2.1
  have e1 : BitVec.ofInt 64 (((m : Nat) : Int) * 256) = BitVec.ofNat 64 (m * 256) := by rw [← BitVec.ofInt_natCast]; congr 1
  have e2 : BitVec.ofInt 64 ((n : Nat) : Int) = BitVec.ofNat 64 n := BitVec.ofInt_natCast 64 n
  have e3 : m * 256 ||| n = m * 256 + n := by
    have := Nat.shiftLeft_add_eq_or_of_lt (i := 8) (b := n) (by omega) m
    rw [Nat.shiftLeft_eq] at this
    exact this.symm
  have e4 : bits .or .i64 (((m : Nat) : Int) * 256) ((n : Nat) : Int) = IntKind.i64.wrap (((BitVec.ofInt 64 (((m : Nat) : Int) * 256) ||| BitVec.ofInt 64 ((n : Nat) : Int)).toNat : Nat) : Int) := rfl
  rw [e4, e1, e2, BitVec.toNat_or, BitVec.toNat_ofNat, BitVec.toNat_ofNat, Nat.mod_eq_of_lt (by omega), Nat.mod_eq_of_lt (by omega), e3]
  rw [wrap_fits (by simp only [fits]; omega)]
  omega

theorem wput_any (b : Nat) (x : WS) (t : ByteArray) (right : Bool) (er : Int) (ht : t.size ≤ 9000000000000000000) (w : World) (hx : x.1.size ≤ 1000000000) (hA : HA.ok w (.cells b [.string (x).1, .int .i64 (x).2])) :
  Calls Try.prog 64 #[.pointer (some ⟨b, 0, none⟩), .string t, .bool right, .int .i64 er] w fun e w' => e = .returned (.tuple #[]) ∧ Upd w w' (.cells b [.string (x).1, .int .i64 (x).2]) (.cells b [.string (wPut x t right er).1, .int .i64 (wPut x t right er).2]) := by
 refine calls_of (n := 28) (E := [(0, .pointer (some ⟨b, 0, none⟩)), (1, .string t), (2, .bool right), (3, .int .i64 er)]) (W := Hp w [b] [.cells b [.string (x).1, .int .i64 (x).2]]) Try.func64 rfl rfl (Nat.le_of_ble_eq_true rfl) rfl (Hp.start rfl hA) ?_
 refine jc_block ?_
 refine jsr ?_
 refine jz ?_
 refine jl_bool (fun h9 => ?_) (fun h9 => ?_)
 ·skip
  refine jz ?_
  refine jnt ?_
  refine jc_true rfl ?_
  refine jc_region ?_
  refine jz ?_
  refine jz ?_
  refine jz ?_
  refine jz ?_
  refine jz ?_
  refine jy (y_concat rfl rfl (by omega)) ?_
  refine jz ?_
  refine jz ?_
  refine jst ?_
  refine jl_nil ?_
  refine jq_block ?_
  refine jq_end0 rfl ?_
  exact fun w' hw => ⟨rfl, by rw [h9, wPut_yes]; exact hw.updd rfl⟩
 ·skip
  refine jz ?_
  refine jnt ?_
  refine jc_false rfl ?_
  refine jsr ?_
  refine jz ?_
  refine jz ?_
  refine jz ?_
  refine jz ?_
  refine jy (y_eql rfl rfl) ?_
  refine jl_prop (fun h23 => ?_) (fun h23 => ?_)
  ·first
   | (exfalso; omega)
   | (
    refine jz ?_
    refine jnt ?_
    refine jc_true rfl ?_
    refine jc_region ?_
    refine jz ?_
    refine jz ?_
    refine jz ?_
    refine jz ?_
    refine jst ?_
    refine jl_nil ?_
    refine jq_block ?_
    refine jq_end0 rfl ?_
    exact fun w' hw => ⟨rfl, by rw [h9, wPut_no, failE_zero er (by omega)]; exact hw.updd rfl⟩
    )
  ·first
   | (exfalso; omega)
   | (
    refine jz ?_
    refine jnt ?_
    refine jc_false rfl ?_
    refine jc_skip ?_
    refine jq_block ?_
    refine jq_end0 rfl ?_
    exact fun w' hw => ⟨rfl, by rw [h9, wPut_no, failE_old er (by omega)]; exact hw.updd rfl⟩
    )

theorem wbyte_any (b : Nat) (x : WS) (n : Int) (hn : fits .i64 n) (w : World) (hx : x.1.size ≤ 1000000000) (hA : HA.ok w (.cells b [.string (x).1, .int .i64 (x).2])) :
  Calls Try.prog 39 #[.pointer (some ⟨b, 0, none⟩), .int .i64 n] w fun e w' => e = .returned (.tuple #[]) ∧ Upd w w' (.cells b [.string (x).1, .int .i64 (x).2]) (.cells b [.string (wByte x n).1, .int .i64 (wByte x n).2]) := by
 refine calls_of (n := 16) (E := [(0, .pointer (some ⟨b, 0, none⟩)), (1, .int .i64 n)]) (W := Hp w [b] [.cells b [.string (x).1, .int .i64 (x).2]]) Try.func39 rfl rfl (Nat.le_of_ble_eq_true rfl) rfl (Hp.start rfl hA) ?_
 refine jc_region ?_
 refine jz ?_
 refine jz ?_
 refine jy (y_conv_u8 rfl) ?_
 refine jl_m rfl (by decide) rfl (m_buildSlice (by decide) (Built.cell rfl rfl rfl (by repeat constructor) Built.nil)) (fun b7 => ?_)
 refine jy (y_str_own rfl (by first | exact mem0 | exact mem1 | exact mem2 | exact mem3 | exact mem4 | exact mem5) (by repeat constructor)) ?_
 refine jl_as (u := .string (oneB n)) rfl ?_
 refine jz ?_
 refine jy (y_geq rfl rfl) ?_
 refine jl_prop (fun h10 => ?_) (fun h10 => ?_)
 ·first
  | (exfalso; omega)
  | (
   refine jz ?_
   refine jz ?_
   refine jy (y_leq rfl rfl) ?_
   refine jy (y_pick_true rfl rfl) ?_
   refine jl_as (u := .bool (decide (0 ≤ n ∧ n ≤ 255))) (congrArg Value.bool (by first | exact dec_and.1 (by assumption) | exact dec_and.2 (by assumption))) ?_
   refine juc (goes_func rfl) (fun w1 hw1 => wput_any b x (oneB n) (decide (0 ≤ n ∧ n ≤ 255)) 1 (by rw [oneB_size]; decide) w1 hx hw1) ?_
   refine jl_nil ?_
   refine jq_end0 rfl ?_
   exact fun w' hw => ⟨rfl, (hw.part (.cons del1 .nil)).updd rfl⟩
   )
 ·first
  | (exfalso; omega)
  | (
   refine jz ?_
   refine jsk ?_
   refine jsk ?_
   refine jy (y_pick_false rfl rfl) ?_
   refine jl_as (u := .bool (decide (0 ≤ n ∧ n ≤ 255))) (congrArg Value.bool (by first | exact dec_and.1 (by assumption) | exact dec_and.2 (by assumption))) ?_
   refine juc (goes_func rfl) (fun w1 hw1 => wput_any b x (oneB n) (decide (0 ≤ n ∧ n ≤ 255)) 1 (by rw [oneB_size]; decide) w1 hx hw1) ?_
   refine jl_nil ?_
   refine jq_end0 rfl ?_
   exact fun w' hw => ⟨rfl, (hw.part (.cons del1 .nil)).updd rfl⟩
   )

theorem wnum_any (b : Nat) (x : WS) (n : Int) (hn : fits .u64 n) (w : World) (hx : x.1.size ≤ 1000000000) (hA : HA.ok w (.cells b [.string (x).1, .int .i64 (x).2])) :
  Calls Try.prog 42 #[.pointer (some ⟨b, 0, none⟩), .int .u64 n] w fun e w' => e = .returned (.tuple #[]) ∧ Upd w w' (.cells b [.string (x).1, .int .i64 (x).2]) (.cells b [.string (wNum x n).1, .int .i64 (wNum x n).2]) := by
 refine calls_of (n := 8) (E := [(0, .pointer (some ⟨b, 0, none⟩)), (1, .int .u64 n)]) (W := Hp w [b] [.cells b [.string (x).1, .int .i64 (x).2]]) Try.func42 rfl rfl (Nat.le_of_ble_eq_true rfl) rfl (Hp.start rfl hA) ?_
 refine jc_region ?_
 refine jz ?_
 refine jz ?_
 refine jpc (goes_func rfl) (fun w1 hw1 => put_any _ w1 (by simp only [fits] at *; omega)) ?_
 refine juc (goes_func rfl) (fun w1 hw1 => wput_any b x (putS n) (true) 0 (by rw [putS_size]; decide) w1 hx hw1) ?_
 refine jl_nil ?_
 refine jq_end0 rfl ?_
 exact fun w' hw => ⟨rfl, hw.updd rfl⟩

theorem wblob_any (b : Nat) (x : WS) (t : ByteArray) (ht : t.size ≤ 1000000000) (w : World) (hx : x.1.size ≤ 1000000000) (hA : HA.ok w (.cells b [.string (x).1, .int .i64 (x).2])) :
  Calls Try.prog 40 #[.pointer (some ⟨b, 0, none⟩), .string t] w fun e w' => e = .returned (.tuple #[]) ∧ Upd w w' (.cells b [.string (x).1, .int .i64 (x).2]) (.cells b [.string (wBlob x t).1, .int .i64 (wBlob x t).2]) := by
 refine calls_of (n := 20) (E := [(0, .pointer (some ⟨b, 0, none⟩)), (1, .string t)]) (W := Hp w [b] [.cells b [.string (x).1, .int .i64 (x).2]]) Try.func40 rfl rfl (Nat.le_of_ble_eq_true rfl) rfl (Hp.start rfl hA) ?_
 refine jsr ?_
 refine jz ?_
 refine jy (y_len_str rfl) ?_
 refine jz ?_
 refine jnt ?_
 refine jc_region ?_
 refine jz ?_
 refine jz ?_
 refine jy (y_shr_by (m := 256) rfl rfl (by decide) (by decide) (by decide)) ?_
 refine jy (y_conv_u8 rfl) ?_
 refine jz ?_
 refine jy (y_conv_u8 rfl) ?_
 refine jl_m rfl (by decide) rfl (m_buildSlice (by decide) (Built.cell rfl rfl rfl (by repeat constructor) (Built.cell rfl rfl rfl (by repeat constructor) Built.nil))) (fun b13 => ?_)
 refine jy (y_str_own rfl (by first | exact mem0 | exact mem1 | exact mem2 | exact mem3 | exact mem4 | exact mem5) (by repeat constructor)) ?_
 refine jz ?_
 refine jy (y_concat rfl rfl (by rw [strOfNums_size]; show 2 + _ ≤ _; omega)) ?_
 refine jl_as (u := .string (partS t)) rfl ?_
 refine jz ?_
 refine jy (y_leq rfl rfl) ?_
 refine jl_as (u := .bool (decide (t.size ≤ 4096))) (congrArg Value.bool (by rw [decide_eq_decide]; omega)) ?_
 refine juc (goes_func rfl) (fun w1 hw1 => wput_any b x (partS t) (decide (t.size ≤ 4096)) 5 (by rw [partS_size']; omega) w1 hx hw1) ?_
 refine jl_nil ?_
 refine jq_end0 rfl ?_
 exact fun w' hw => ⟨rfl, (hw.part (.cons (by first | exact del1 | exact del0) .nil)).updd rfl⟩

theorem wtext_any (b : Nat) (x : WS) (w : World) (h0 : CellAt w b 0 (.string x.1)) (h1 : CellAt w b 1 (.int .i64 x.2)) :
  Calls Try.prog 43 #[.pointer (some ⟨b, 0, none⟩)] w fun e w' => e = .returned (.string (wText x)) ∧ Ch [] w w' := by
 refine calls_of (n := 12) (E := [(0, .pointer (some ⟨b, 0, none⟩))]) (W := Hp w [] []) Try.func43 rfl rfl (Nat.le_of_ble_eq_true rfl) rfl (Hp.nil _ _) ?_
 refine jsr ?_
 refine jz ?_
 refine jnt ?_
 refine jc_seq ?_
 refine jsr ?_
 refine jz ?_
 refine jz ?_
 refine jz ?_
 refine jy (y_load_old rfl h1 (by simp)) ?_
 refine jy (y_neq rfl rfl) ?_
 refine jl_prop (fun h7 => ?_) (fun h7 => ?_)
 ·first
  | (exfalso; omega)
  | (
   refine jnt ?_
   refine jc_true rfl ?_
   refine jsr ?_
   refine jz ?_
   refine jnt ?_
   refine jc_ret ?_
   refine jq_then_ret ?_
   refine jq_ret1 rfl rfl ?_
   exact fun _ hw => ⟨by unfold wText; rw [if_neg (by omega)], hw.ch⟩
   )
 ·first
  | (exfalso; omega)
  | (
   refine jnt ?_
   refine jc_false rfl ?_
   refine jc_skip ?_
   refine jq_then ?_
   refine jsr ?_
   refine jz ?_
   refine jz ?_
   refine jz ?_
   refine jy (y_load_old rfl h0 (by simp)) ?_
   refine jz ?_
   refine jnt ?_
   refine jc_ret ?_
   refine jq_ret1 rfl rfl ?_
   exact fun _ hw => ⟨by unfold wText; rw [if_pos (by omega)], hw.ch⟩
   )

end Go.Proofs.Ytghomncegjamfaa