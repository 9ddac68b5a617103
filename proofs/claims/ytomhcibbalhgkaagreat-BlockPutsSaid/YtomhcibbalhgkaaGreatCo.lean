/- The walks of package codec, and of what it stands on. Written by program (walk.py) out of a table of contracts and invariants. -/
import Derived.Test.YtomhcibbalhgkaaGreatMcod
import Derived.Test.YtomhcibbalhgkaaGreatNu
import Derived.Test.YtomhcibbalhgkaaGreatJl
namespace Go.Proofs.YtomhcibbalhgkaaGreat
open Go.RowKit
set_option maxRecDepth 100000
set_option linter.unusedVariables false
set_option linter.unusedSimpArgs false
/-- What a writer's, a reader's block holds. -/
def wC (b : Nat) (x : WS) : HA := .cells b [.string x.1, .int .i64 x.2]
def rC (b : Nat) (S : ByteArray) (x : RS) : HA := .cells b [.string (S.extract x.1 S.size), .int .i64 x.2]
theorem ext_hi {S : ByteArray} {a n : Nat} (h : a + n ≤ S.size) : (S.extract a S.size).extract 0 n = S.extract a (a + n) := by
  apply ints_inj
  rw [ints_extract, ints_extract, ints_extract, List.drop_zero, List.take_drop, List.take_take]
  congr 2
  omega
theorem ext_lo {S : ByteArray} {a n : Nat} (h : a + n ≤ S.size) : (S.extract a S.size).extract n (S.size - a) = S.extract (a + n) S.size := by
  apply ints_inj
  have hl := ints_length S
  rw [ints_extract, ints_extract, ints_extract, List.take_of_length_le (l := ints S) (by omega), List.take_of_length_le (by rw [List.length_drop]; omega), List.drop_drop]
theorem tk_fail {S : ByteArray} {x : RS} {n : Nat} (h : ¬ x.1 + n ≤ S.size) : tkV S x n = ⟨#[]⟩ ∧ tkS S x n = (x.1, failE x.2 3) := by
  by_cases h0 : x.2 = 0
  · rw [failE_zero 3 h0]; exact tk_short h0 h
  · rw [failE_old 3 h0]; exact tk_bad h0
theorem fail_cases (e er : Int) : (e = 0 ∧ failE e er = er) ∨ (e ≠ 0 ∧ failE e er = e) := by
  by_cases h : e = 0
  · exact .inl ⟨h, failE_zero er h⟩
  · exact .inr ⟨h, failE_old er h⟩
theorem dec_and {n : Int} : (0 ≤ n → (decide (n ≤ 255)) = decide (0 ≤ n ∧ n ≤ 255)) ∧ (¬ 0 ≤ n → false = decide (0 ≤ n ∧ n ≤ 255)) :=
  ⟨fun h => by rw [decide_eq_decide]; omega, fun h => by symm; rw [decide_eq_false_iff_not]; omega⟩
theorem two_or (s : ByteArray) : bits .or .i64 ((ints s).getD 0 0 * 256) ((ints s).getD 1 0) = two s := by
  have h1 := ints_getD_range s 0
  have h2 := ints_getD_range s 1
  unfold two
  generalize (ints s).getD 0 0 = a at *
  generalize (ints s).getD 1 0 = b at *
  obtain ⟨m, rfl⟩ := Int.eq_ofNat_of_zero_le h1.1
  obtain ⟨n, rfl⟩ := Int.eq_ofNat_of_zero_le h2.1
  have e1 : BitVec.ofInt 64 (((m : Nat) : Int) * 256) = BitVec.ofNat 64 (m * 256) := by rw [← BitVec.ofInt_natCast]; congr 1
  have e2 : BitVec.ofInt 64 ((n : Nat) : Int) = BitVec.ofNat 64 n := BitVec.ofInt_natCast 64 n
  have e3 : m * 256 ||| n = m * 256 + n := by
    have := Nat.shiftLeft_add_eq_or_of_lt (i := 8) (b := n) (by omega) m
    rw [Nat.shiftLeft_eq] at this
    exact this.symm
  have e4 : bits .or .i64 (((m : Nat) : Int) * 256) ((n : Nat) : Int) = IntKind.i64.wrap (((BitVec.ofInt 64 (((m : Nat) : Int) * 256) ||| BitVec.ofInt 64 ((n : Nat) : Int)).toNat : Nat) : Int) := rfl
  rw [e4, e1, e2, BitVec.toNat_or, BitVec.toNat_ofNat, BitVec.toNat_ofNat, Nat.mod_eq_of_lt (by omega), Nat.mod_eq_of_lt (by omega), e3]
  rw [wrap_fits (by simp only [fits]; omega)]
  omega

theorem get_any (s : ByteArray) (w : World) (hs : s.size ≤ 1000000) :
  Calls Tryz.prog 101 #[.string s] w fun e w' => e = .returned (.tuple #[.int .u64 (getV s), .int .i64 (getE s)]) ∧ Ch [] w w' := by
 refine calls_of (n := 21) (E := [(0, .string s)]) (W := Hp w [] []) Tryz.func101 rfl rfl (Nat.le_of_ble_eq_true rfl) rfl (Hp.nil _ _) ?_
 refine jsr ?_
 refine jz ?_
 refine jz ?_
 refine jnt ?_
 refine jc_seq ?_
 refine jsr ?_
 refine jz ?_
 refine jy (y_len_str rfl) ?_
 refine jy (y_lss rfl rfl) ?_
 refine jl_prop (fun h8 => ?_) (fun h8 => ?_)
 ·first
  | (exfalso; omega)
  | (
   refine jnt ?_
   refine jc_true rfl ?_
   refine jsr ?_
   refine jz ?_
   refine jz ?_
   refine jnt ?_
   refine jc_ret ?_
   refine jq_then_ret ?_
   refine jq_ret2 rfl rfl rfl ?_
   exact fun _ hw => ⟨by unfold getV getE; rw [if_pos (by omega), if_pos (by omega)], hw.ch⟩
   )
 ·first
  | (exfalso; omega)
  | (
   refine jnt ?_
   refine jc_false rfl ?_
   refine jc_skip ?_
   refine jq_then ?_
   refine jsr ?_
   refine jz ?_
   refine jnt ?_
   refine jc_seq ?_
   refine jsr ?_
   refine jz ?_
   refine jnt ?_
   refine jc_block ?_
   refine jc_loop (fun (i : Nat) => [(0, .string s), (4, .int .u64 (getP s i)), (9, .int .i64 (i : Nat))]) (fun (i : Nat) => fun w' => i ≤ 8 ∧ Hp w [] [] w') (fun (i : Nat) => 8 - i) 0 ?_ ?_ ?_
   ·exact ⟨rfl, rfl, rfl, trivial⟩
   ·exact fun _ h => ⟨by omega, h⟩
   ·intro i
    refine jc_and (fun hi => ?_)
    have hb := ints_getD_range s i
    have hg := getP_fits s i (by omega)
    refine jsr ?_
    refine jy (y_lss rfl rfl) ?_
    refine jl_prop (fun h10 => ?_) (fun h10 => ?_)
    ·first
     | (exfalso; omega)
     | (
      have hsm := getP_small s i (by omega)
      refine jnt ?_
      refine jc_seq ?_
      refine jc_true rfl ?_
      refine jc_skip ?_
      refine jq_then ?_
      refine jc_seq ?_
      refine jc_block ?_
      refine jsr ?_
      refine jz ?_
      refine jz ?_
      refine jnt ?_
      refine jc_region ?_
      refine jz ?_
      refine jy (y_shl_by_u64 (m := 256) rfl rfl (by decide) (by decide) (by decide)) ?_
      refine jl_as (u := .int .u64 (getP s i * 256)) (congrArg (Value.int .u64) (by omega)) ?_
      refine jz ?_
      refine jz ?_
      refine jy (y_at_str rfl rfl (by omega) (by omega)) ?_
      refine jl_as (u := .int .u8 ((ints s).getD i 0)) (congrArg (Value.int .u8) (bAt_ints s i)) ?_
      first | refine jy (y_conv_fits rfl (by simp only [fits]; omega)) ?_ | refine jy (y_conv_u64 rfl) ?_
      refine jy (y_or rfl rfl) ?_
      refine jl_as (u := .int .u64 (getP s (i + 1))) (congrArg (Value.int .u64) (or_high (getP s i) ((ints s).getD i 0) 8 256 (by decide) (by omega) (by omega) (by omega) (by omega) (by decide))) ?_
      refine jz ?_
      refine jl_nil ?_
      refine jq_block ?_
      refine jq_then ?_
      refine jc_region ?_
      refine jy (y_add_fits rfl rfl (by simp only [fits]; omega)) ?_
      refine jz ?_
      refine jl_nil ?_
      refine jq_round (i := i) (i + 1) ?_ ?_ ?_
      ·omega
      ·exact ⟨rfl, rfl, lk_int rfl (by omega), trivial⟩
      ·exact fun _ h => ⟨by omega, h⟩
      )
    ·first
     | (exfalso; omega)
     | (
      refine jnt ?_
      refine jc_seq ?_
      refine jc_false rfl ?_
      refine jc_exit ?_
      refine jq_then_exit ?_
      refine jq_then_exit ?_
      refine jq_hit ?_
      refine jq_then ?_
      refine jsr ?_
      refine jz ?_
      refine jz ?_
      refine jz ?_
      refine jnt ?_
      refine jc_ret ?_
      refine jq_ret2 rfl rfl rfl ?_
      exact fun _ hw => ⟨by have e : i = 8 := (by omega); subst e; unfold getV getE; rw [if_neg (by omega), if_neg (by omega)], hw.ch⟩
      )
   )

theorem int_any (n : Int) (w : World) (hn : fits .u64 n) :
  Calls Tryz.prog 79 #[.int .u64 n] w fun e w' => e = .returned (.tuple #[.int .i64 (if 9223372036854775807 < n then 0 else n), .int .i64 (if 9223372036854775807 < n then 2 else 0)]) ∧ Ch [] w w' := by
 simp only [fits] at hn
 refine calls_of (n := 8) (E := [(0, .int .u64 n)]) (W := Hp w [] []) Tryz.func79 rfl rfl (Nat.le_of_ble_eq_true rfl) rfl (Hp.nil _ _) ?_
 refine jsr ?_
 refine jz ?_
 refine jz ?_
 refine jnt ?_
 refine jc_seq ?_
 refine jsr ?_
 refine jz ?_
 refine jy (y_gtr rfl rfl) ?_
 refine jl_prop (fun h5 => ?_) (fun h5 => ?_)
 ·first
  | (exfalso; omega)
  | (
   refine jnt ?_
   refine jc_true rfl ?_
   refine jsr ?_
   refine jz ?_
   refine jz ?_
   refine jnt ?_
   refine jc_ret ?_
   refine jq_then_ret ?_
   refine jq_ret2 rfl rfl rfl ?_
   exact fun _ hw => ⟨by rw [if_pos (by omega), if_pos (by omega)], hw.ch⟩
   )
 ·first
  | (exfalso; omega)
  | (
   refine jnt ?_
   refine jc_false rfl ?_
   refine jc_skip ?_
   refine jq_then ?_
   refine jsr ?_
   refine jz ?_
   first | refine jy (y_conv_fits rfl (by simp only [fits]; omega)) ?_
   refine jz ?_
   refine jz ?_
   refine jnt ?_
   refine jc_ret ?_
   refine jq_ret2 rfl rfl rfl ?_
   exact fun _ hw => ⟨by rw [if_neg (by omega), if_neg (by omega)], hw.ch⟩
   )

theorem wput_any (b : Nat) (x : WS) (t : ByteArray) (right : Bool) (er : Int) (ht : t.size ≤ 9000000000000000000) (w : World) (hx : x.1.size ≤ 1000000000) (hA : HA.ok w (.cells b [.string (x).1, .int .i64 (x).2])) :
  Calls Tryz.prog 69 #[.pointer (some ⟨b, 0, none⟩), .string t, .bool right, .int .i64 er] w fun e w' => e = .returned (.tuple #[]) ∧ Upd w w' (.cells b [.string (x).1, .int .i64 (x).2]) (.cells b [.string (wPut x t right er).1, .int .i64 (wPut x t right er).2]) := by
 refine calls_of (n := 28) (E := [(0, .pointer (some ⟨b, 0, none⟩)), (1, .string t), (2, .bool right), (3, .int .i64 er)]) (W := Hp w [b] [.cells b [.string (x).1, .int .i64 (x).2]]) Tryz.func69 rfl rfl (Nat.le_of_ble_eq_true rfl) rfl (Hp.start rfl hA) ?_
 refine jc_block ?_
 refine jsr ?_
 refine jz ?_
 refine jl_bool (fun h9 => ?_) (fun h9 => ?_)
 ·skip
  refine jz ?_
  refine jnt ?_
  refine jc_true rfl ?_
  refine jc_region ?_
  refine jz ?_
  refine jz ?_
  refine jz ?_
  refine jz ?_
  refine jz ?_
  refine jy (y_concat rfl rfl (by omega)) ?_
  refine jz ?_
  refine jz ?_
  refine jst ?_
  refine jl_nil ?_
  refine jq_block ?_
  refine jq_end0 rfl ?_
  exact fun w' hw => ⟨rfl, by rw [h9, wPut_yes]; exact hw.updd rfl⟩
 ·skip
  refine jz ?_
  refine jnt ?_
  refine jc_false rfl ?_
  refine jsr ?_
  refine jz ?_
  refine jz ?_
  refine jz ?_
  refine jz ?_
  refine jy (y_eql rfl rfl) ?_
  refine jl_prop (fun h23 => ?_) (fun h23 => ?_)
  ·first
   | (exfalso; omega)
   | (
    refine jz ?_
    refine jnt ?_
    refine jc_true rfl ?_
    refine jc_region ?_
    refine jz ?_
    refine jz ?_
    refine jz ?_
    refine jz ?_
    refine jst ?_
    refine jl_nil ?_
    refine jq_block ?_
    refine jq_end0 rfl ?_
    exact fun w' hw => ⟨rfl, by rw [h9, wPut_no, failE_zero er (by omega)]; exact hw.updd rfl⟩
    )
  ·first
   | (exfalso; omega)
   | (
    refine jz ?_
    refine jnt ?_
    refine jc_false rfl ?_
    refine jc_skip ?_
    refine jq_block ?_
    refine jq_end0 rfl ?_
    exact fun w' hw => ⟨rfl, by rw [h9, wPut_no, failE_old er (by omega)]; exact hw.updd rfl⟩
    )

theorem wbyte_any (b : Nat) (x : WS) (n : Int) (hn : fits .i64 n) (w : World) (hx : x.1.size ≤ 1000000000) (hA : HA.ok w (.cells b [.string (x).1, .int .i64 (x).2])) :
  Calls Tryz.prog 35 #[.pointer (some ⟨b, 0, none⟩), .int .i64 n] w fun e w' => e = .returned (.tuple #[]) ∧ Upd w w' (.cells b [.string (x).1, .int .i64 (x).2]) (.cells b [.string (wByte x n).1, .int .i64 (wByte x n).2]) := by
 refine calls_of (n := 16) (E := [(0, .pointer (some ⟨b, 0, none⟩)), (1, .int .i64 n)]) (W := Hp w [b] [.cells b [.string (x).1, .int .i64 (x).2]]) Tryz.func35 rfl rfl (Nat.le_of_ble_eq_true rfl) rfl (Hp.start rfl hA) ?_
 refine jc_region ?_
 refine jz ?_
 refine jz ?_
 refine jy (y_conv_u8 rfl) ?_
 refine jl_m rfl (by decide) rfl (m_buildSlice (by decide) (Built.cell rfl rfl rfl (by repeat constructor) Built.nil)) (fun b7 => ?_)
 refine jy (y_str_own rfl (by first | exact mem0 | exact mem1 | exact mem2 | exact mem3 | exact mem4 | exact mem5) (by repeat constructor)) ?_
 refine jl_as (u := .string (oneB n)) rfl ?_
 refine jz ?_
 refine jy (y_geq rfl rfl) ?_
 refine jl_prop (fun h10 => ?_) (fun h10 => ?_)
 ·first
  | (exfalso; omega)
  | (
   refine jz ?_
   refine jz ?_
   refine jy (y_leq rfl rfl) ?_
   refine jy (y_pick_true rfl rfl) ?_
   refine jl_as (u := .bool (decide (0 ≤ n ∧ n ≤ 255))) (congrArg Value.bool (by first | exact dec_and.1 (by assumption) | exact dec_and.2 (by assumption))) ?_
   refine juc (goes_func rfl) (fun w1 hw1 => wput_any b x (oneB n) (decide (0 ≤ n ∧ n ≤ 255)) 1 (by rw [oneB_size]; decide) w1 hx hw1) ?_
   refine jl_nil ?_
   refine jq_end0 rfl ?_
   exact fun w' hw => ⟨rfl, (hw.part (.cons del1 .nil)).updd rfl⟩
   )
 ·first
  | (exfalso; omega)
  | (
   refine jz ?_
   refine jsk ?_
   refine jsk ?_
   refine jy (y_pick_false rfl rfl) ?_
   refine jl_as (u := .bool (decide (0 ≤ n ∧ n ≤ 255))) (congrArg Value.bool (by first | exact dec_and.1 (by assumption) | exact dec_and.2 (by assumption))) ?_
   refine juc (goes_func rfl) (fun w1 hw1 => wput_any b x (oneB n) (decide (0 ≤ n ∧ n ≤ 255)) 1 (by rw [oneB_size]; decide) w1 hx hw1) ?_
   refine jl_nil ?_
   refine jq_end0 rfl ?_
   exact fun w' hw => ⟨rfl, (hw.part (.cons del1 .nil)).updd rfl⟩
   )

theorem wnum_any (b : Nat) (x : WS) (n : Int) (hn : fits .u64 n) (w : World) (hx : x.1.size ≤ 1000000000) (hA : HA.ok w (.cells b [.string (x).1, .int .i64 (x).2])) :
  Calls Tryz.prog 36 #[.pointer (some ⟨b, 0, none⟩), .int .u64 n] w fun e w' => e = .returned (.tuple #[]) ∧ Upd w w' (.cells b [.string (x).1, .int .i64 (x).2]) (.cells b [.string (wNum x n).1, .int .i64 (wNum x n).2]) := by
 refine calls_of (n := 8) (E := [(0, .pointer (some ⟨b, 0, none⟩)), (1, .int .u64 n)]) (W := Hp w [b] [.cells b [.string (x).1, .int .i64 (x).2]]) Tryz.func36 rfl rfl (Nat.le_of_ble_eq_true rfl) rfl (Hp.start rfl hA) ?_
 refine jc_region ?_
 refine jz ?_
 refine jz ?_
 refine jpc (goes_func rfl) (fun w1 hw1 => put_any _ w1 (by simp only [fits] at *; omega)) ?_
 refine juc (goes_func rfl) (fun w1 hw1 => wput_any b x (putS n) (true) 0 (by rw [putS_size]; decide) w1 hx hw1) ?_
 refine jl_nil ?_
 refine jq_end0 rfl ?_
 exact fun w' hw => ⟨rfl, hw.updd rfl⟩

theorem wblob_any (b : Nat) (x : WS) (t : ByteArray) (ht : t.size ≤ 1000000000) (w : World) (hx : x.1.size ≤ 1000000000) (hA : HA.ok w (.cells b [.string (x).1, .int .i64 (x).2])) :
  Calls Tryz.prog 38 #[.pointer (some ⟨b, 0, none⟩), .string t] w fun e w' => e = .returned (.tuple #[]) ∧ Upd w w' (.cells b [.string (x).1, .int .i64 (x).2]) (.cells b [.string (wBlob x t).1, .int .i64 (wBlob x t).2]) := by
 refine calls_of (n := 20) (E := [(0, .pointer (some ⟨b, 0, none⟩)), (1, .string t)]) (W := Hp w [b] [.cells b [.string (x).1, .int .i64 (x).2]]) Tryz.func38 rfl rfl (Nat.le_of_ble_eq_true rfl) rfl (Hp.start rfl hA) ?_
 refine jsr ?_
 refine jz ?_
 refine jy (y_len_str rfl) ?_
 refine jz ?_
 refine jnt ?_
 refine jc_region ?_
 refine jz ?_
 refine jz ?_
 refine jy (y_shr_by (m := 256) rfl rfl (by decide) (by decide) (by decide)) ?_
 refine jy (y_conv_u8 rfl) ?_
 refine jz ?_
 refine jy (y_conv_u8 rfl) ?_
 refine jl_m rfl (by decide) rfl (m_buildSlice (by decide) (Built.cell rfl rfl rfl (by repeat constructor) (Built.cell rfl rfl rfl (by repeat constructor) Built.nil))) (fun b13 => ?_)
 refine jy (y_str_own rfl (by first | exact mem0 | exact mem1 | exact mem2 | exact mem3 | exact mem4 | exact mem5) (by repeat constructor)) ?_
 refine jz ?_
 refine jy (y_concat rfl rfl (by rw [strOfNums_size]; show 2 + _ ≤ _; omega)) ?_
 refine jl_as (u := .string (partS t)) rfl ?_
 refine jz ?_
 refine jy (y_leq rfl rfl) ?_
 refine jl_as (u := .bool (decide (t.size ≤ 4096))) (congrArg Value.bool (by rw [decide_eq_decide]; omega)) ?_
 refine juc (goes_func rfl) (fun w1 hw1 => wput_any b x (partS t) (decide (t.size ≤ 4096)) 5 (by rw [partS_size']; omega) w1 hx hw1) ?_
 refine jl_nil ?_
 refine jq_end0 rfl ?_
 exact fun w' hw => ⟨rfl, (hw.part (.cons (by first | exact del1 | exact del0) .nil)).updd rfl⟩

theorem whash_any (b : Nat) (x : WS) (t : ByteArray) (ht : t.size ≤ 1000000000) (w : World) (hx : x.1.size ≤ 1000000000) (hA : HA.ok w (.cells b [.string (x).1, .int .i64 (x).2])) :
  Calls Tryz.prog 37 #[.pointer (some ⟨b, 0, none⟩), .string t] w fun e w' => e = .returned (.tuple #[]) ∧ Upd w w' (.cells b [.string (x).1, .int .i64 (x).2]) (.cells b [.string (wHash x t).1, .int .i64 (wHash x t).2]) := by
 refine calls_of (n := 10) (E := [(0, .pointer (some ⟨b, 0, none⟩)), (1, .string t)]) (W := Hp w [b] [.cells b [.string (x).1, .int .i64 (x).2]]) Tryz.func37 rfl rfl (Nat.le_of_ble_eq_true rfl) rfl (Hp.start rfl hA) ?_
 refine jc_region ?_
 refine jz ?_
 refine jz ?_
 refine jz ?_
 refine jy (y_len_str rfl) ?_
 refine jy (y_eql rfl rfl) ?_
 refine jl_as (u := .bool (decide (t.size = 16))) (congrArg Value.bool (by rw [decide_eq_decide]; omega)) ?_
 refine juc (goes_func rfl) (fun w1 hw1 => wput_any b x (t) (decide (t.size = 16)) 1 (by omega) w1 hx hw1) ?_
 refine jl_nil ?_
 refine jq_end0 rfl ?_
 exact fun w' hw => ⟨rfl, hw.updd rfl⟩

theorem wtext_any (b : Nat) (x : WS) (w : World) (h0 : CellAt w b 0 (.string x.1)) (h1 : CellAt w b 1 (.int .i64 x.2)) :
  Calls Tryz.prog 40 #[.pointer (some ⟨b, 0, none⟩)] w fun e w' => e = .returned (.string (wText x)) ∧ Ch [] w w' := by
 refine calls_of (n := 12) (E := [(0, .pointer (some ⟨b, 0, none⟩))]) (W := Hp w [] []) Tryz.func40 rfl rfl (Nat.le_of_ble_eq_true rfl) rfl (Hp.nil _ _) ?_
 refine jsr ?_
 refine jz ?_
 refine jnt ?_
 refine jc_seq ?_
 refine jsr ?_
 refine jz ?_
 refine jz ?_
 refine jz ?_
 refine jy (y_load_old rfl h1 (by simp)) ?_
 refine jy (y_neq rfl rfl) ?_
 refine jl_prop (fun h7 => ?_) (fun h7 => ?_)
 ·first
  | (exfalso; omega)
  | (
   refine jnt ?_
   refine jc_true rfl ?_
   refine jsr ?_
   refine jz ?_
   refine jnt ?_
   refine jc_ret ?_
   refine jq_then_ret ?_
   refine jq_ret1 rfl rfl ?_
   exact fun _ hw => ⟨by unfold wText; rw [if_neg (by omega)], hw.ch⟩
   )
 ·first
  | (exfalso; omega)
  | (
   refine jnt ?_
   refine jc_false rfl ?_
   refine jc_skip ?_
   refine jq_then ?_
   refine jsr ?_
   refine jz ?_
   refine jz ?_
   refine jz ?_
   refine jy (y_load_old rfl h0 (by simp)) ?_
   refine jz ?_
   refine jnt ?_
   refine jc_ret ?_
   refine jq_ret1 rfl rfl ?_
   exact fun _ hw => ⟨by unfold wText; rw [if_pos (by omega)], hw.ch⟩
   )

theorem rwfail_any (b : Nat) (x : WS) (er : Int) (w : World) (hx : x.1.size ≤ 1000000000) (hA : HA.ok w (.cells b [.string (x).1, .int .i64 (x).2])) :
  Calls Tryz.prog 71 #[.pointer (some ⟨b, 0, none⟩), .int .i64 er] w fun e w' => e = .returned (.tuple #[]) ∧ Upd w w' (.cells b [.string (x).1, .int .i64 (x).2]) (.cells b [.string ((x.1, failE x.2 er)).1, .int .i64 ((x.1, failE x.2 er)).2]) := by
 refine calls_of (n := 13) (E := [(0, .pointer (some ⟨b, 0, none⟩)), (1, .int .i64 er)]) (W := Hp w [b] [.cells b [.string (x).1, .int .i64 (x).2]]) Tryz.func71 rfl rfl (Nat.le_of_ble_eq_true rfl) rfl (Hp.start rfl hA) ?_
 refine jsr ?_
 refine jz ?_
 refine jz ?_
 refine jz ?_
 refine jz ?_
 refine jy (y_eql rfl rfl) ?_
 refine jl_prop (fun h8 => ?_) (fun h8 => ?_)
 ·first
  | (exfalso; omega)
  | (
   refine jnt ?_
   refine jc_true rfl ?_
   refine jc_region ?_
   refine jz ?_
   refine jz ?_
   refine jz ?_
   refine jz ?_
   refine jst ?_
   refine jl_nil ?_
   refine jq_end0 rfl ?_
   exact fun w' hw => ⟨rfl, by rw [failE_zero er (by omega)]; exact hw.updd rfl⟩
   )
 ·first
  | (exfalso; omega)
  | (
   refine jnt ?_
   refine jc_false rfl ?_
   refine jc_skip ?_
   refine jq_end0 rfl ?_
   exact fun w' hw => ⟨rfl, by rw [failE_old er (by omega)]; exact hw.updd rfl⟩
   )

theorem rwbyte_any (b : Nat) (x : WS) (n : Int) (hn : fits .i64 n) (w : World) (hx : x.1.size ≤ 1000000000) (hA : HA.ok w (.cells b [.string (x).1, .int .i64 (x).2])) :
  Calls Tryz.prog 41 #[.pointer (some ⟨b, 0, none⟩), .int .i64 n] w fun e w' => e = .returned (.tuple #[]) ∧ Upd w w' (.cells b [.string (x).1, .int .i64 (x).2]) (.cells b [.string (wByte x n).1, .int .i64 (wByte x n).2]) := by
 refine calls_of (n := 23) (E := [(0, .pointer (some ⟨b, 0, none⟩)), (1, .int .i64 n)]) (W := Hp w [b] [.cells b [.string (x).1, .int .i64 (x).2]]) Tryz.func41 rfl rfl (Nat.le_of_ble_eq_true rfl) rfl (Hp.start rfl hA) ?_
 refine jc_seq ?_
 refine jsr ?_
 refine jz ?_
 refine jy (y_lss rfl rfl) ?_
 refine jl_prop (fun h5 => ?_) (fun h5 => ?_)
 ·first
  | (exfalso; omega)
  | (
   refine jz ?_
   refine jsk ?_
   refine jsk ?_
   refine jy (y_pick_true rfl rfl) ?_
   refine jnt ?_
   refine jc_true rfl ?_
   refine jsr ?_
   refine jz ?_
   refine juc (goes_func rfl) (fun w1 hw1 => rwfail_any b x 1 w1 hx hw1) ?_
   refine jnt ?_
   refine jc_ret ?_
   refine jq_then_ret ?_
   refine jq_ret0 rfl  ?_
   exact fun w' hw => ⟨rfl, by rw [wByte_no (by omega)]; exact hw.updd rfl⟩
   )
 ·first
  | (exfalso; omega)
  | (
   refine jz ?_
   refine jz ?_
   refine jy (y_gtr rfl rfl) ?_
   refine jl_prop (fun h8 => ?_) (fun h8 => ?_)
   ·first
    | (exfalso; omega)
    | (
     refine jy (y_pick_false rfl rfl) ?_
     refine jnt ?_
     refine jc_true rfl ?_
     refine jsr ?_
     refine jz ?_
     refine juc (goes_func rfl) (fun w1 hw1 => rwfail_any b x 1 w1 hx hw1) ?_
     refine jnt ?_
     refine jc_ret ?_
     refine jq_then_ret ?_
     refine jq_ret0 rfl  ?_
     exact fun w' hw => ⟨rfl, by rw [wByte_no (by omega)]; exact hw.updd rfl⟩
     )
   ·first
    | (exfalso; omega)
    | (
     refine jy (y_pick_false rfl rfl) ?_
     refine jnt ?_
     refine jc_false rfl ?_
     refine jc_skip ?_
     refine jq_then ?_
     refine jc_sched 11 [(0, true), (1, true), (2, true), (3, true), (4, true), (5, true), (6, false), (7, false), (8, true), (9, true), (10, true)] rfl (by kernel_rfl) (fun _ _ _ _ h => h) (fun _ h => h.drew) ?_
     simp only [pickO, nthO, List.drop_succ_cons, List.drop_zero]
     refine jkz ?_
     refine jkz ?_
     refine jkz ?_
     refine jkz ?_
     refine jkz ?_
     refine jky (y_conv_u8 rfl) ?_
     refine js_m (by intros; rename_i h; first | exact h | exact h.pop | exact h.pop.pop | exact h.pop.pop.pop | exact h.pop.pop.pop.pop | exact h.pop.pop.pop.pop.pop | exact h.pop.pop.pop.pop.pop.pop | exact h.part .nil) rfl (by decide) rfl (m_buildSlice (by decide) (Built.cell rfl rfl rfl (by repeat constructor) Built.nil)) (fun b18 => ?_)
     refine js_y (by intro _ h; first | exact h | exact h.pop | exact h.pop.pop | exact h.pop.pop.pop | exact h.pop.pop.pop.pop | exact h.pop.pop.pop.pop.pop | exact h.pop.pop.pop.pop.pop.pop | exact h.part .nil) rfl (by decide) rfl (y_str_own rfl (by first | exact mem0 | exact mem1 | exact mem2 | exact mem3 | exact mem4 | exact mem5) (by repeat constructor)) ?_
     refine js_as (u := .string (oneB n)) rfl ?_
     refine jky (y_concat rfl rfl (by rw [oneB_size]; omega)) ?_
     refine jkz ?_
     refine jkz ?_
     refine js_nil ?_
     refine jst ?_
     refine jl_nil ?_
     refine jq_end0 rfl ?_
     exact fun w' hw => ⟨rfl, by rw [wByte_yes (by omega)]; exact (hw.part (.cons (by first | exact del0 | exact del1) .nil)).updd rfl⟩
     )
   )

theorem rwnum_any (b : Nat) (x : WS) (n : Int) (hn : fits .u64 n) (w : World) (hx : x.1.size ≤ 1000000000) (hA : HA.ok w (.cells b [.string (x).1, .int .i64 (x).2])) :
  Calls Tryz.prog 42 #[.pointer (some ⟨b, 0, none⟩), .int .u64 n] w fun e w' => e = .returned (.tuple #[]) ∧ Upd w w' (.cells b [.string (x).1, .int .i64 (x).2]) (.cells b [.string (wNum x n).1, .int .i64 (wNum x n).2]) := by
 refine calls_of (n := 13) (E := [(0, .pointer (some ⟨b, 0, none⟩)), (1, .int .u64 n)]) (W := Hp w [b] [.cells b [.string (x).1, .int .i64 (x).2]]) Tryz.func42 rfl rfl (Nat.le_of_ble_eq_true rfl) rfl (Hp.start rfl hA) ?_
 refine jc_tail 9 (by kernel_rfl) (fun _ h => h.drew) ?_
 simp only [List.take_succ_cons, List.take_zero, List.drop_succ_cons, List.drop_zero]
 refine jtz ?_
 refine jtz ?_
 refine jtz ?_
 refine jtz ?_
 refine jtz ?_
 refine jt_call rfl (by decide) rfl (goes_func rfl) (fun w1 hw1 => pcall hw1 (rput_any _ w1 (by simp only [fits] at *; omega))) ?_
 refine jty (y_concat rfl rfl (by rw [putS_size]; omega)) ?_
 refine jtz ?_
 refine jtz ?_
 refine jt_nil ?_
 refine jst ?_
 refine jl_nil ?_
 refine jq_end0 rfl ?_
 exact fun w' hw => ⟨rfl, hw.updd rfl⟩

theorem rwblob_any (b : Nat) (x : WS) (t : ByteArray) (ht : t.size ≤ 1000000000) (w : World) (hx : x.1.size ≤ 1000000000) (hA : HA.ok w (.cells b [.string (x).1, .int .i64 (x).2])) :
  Calls Tryz.prog 44 #[.pointer (some ⟨b, 0, none⟩), .string t] w fun e w' => e = .returned (.tuple #[]) ∧ Upd w w' (.cells b [.string (x).1, .int .i64 (x).2]) (.cells b [.string (wBlob x t).1, .int .i64 (wBlob x t).2]) := by
 refine calls_of (n := 28) (E := [(0, .pointer (some ⟨b, 0, none⟩)), (1, .string t)]) (W := Hp w [b] [.cells b [.string (x).1, .int .i64 (x).2]]) Tryz.func44 rfl rfl (Nat.le_of_ble_eq_true rfl) rfl (Hp.start rfl hA) ?_
 refine jc_seq ?_
 refine jsr ?_
 refine jz ?_
 refine jy (y_len_str rfl) ?_
 refine jy (y_gtr rfl rfl) ?_
 refine jl_prop (fun h6 => ?_) (fun h6 => ?_)
 ·first
  | (exfalso; omega)
  | (
   refine jnt ?_
   refine jc_true rfl ?_
   refine jsr ?_
   refine jz ?_
   refine juc (goes_func rfl) (fun w1 hw1 => rwfail_any b x 5 w1 hx hw1) ?_
   refine jnt ?_
   refine jc_ret ?_
   refine jq_then_ret ?_
   refine jq_ret0 rfl  ?_
   exact fun w' hw => ⟨rfl, by rw [wBlob_no (by omega)]; exact hw.updd rfl⟩
   )
 ·first
  | (exfalso; omega)
  | (
   refine jnt ?_
   refine jc_false rfl ?_
   refine jc_skip ?_
   refine jq_then ?_
   refine jc_sched 19 [(0, true), (1, true), (2, true), (3, true), (4, true), (5, true), (6, true), (7, true), (8, true), (9, true), (10, true), (11, true), (14, true), (12, false), (13, false), (15, true), (16, true), (17, true), (18, true)] rfl (by kernel_rfl) (fun _ _ _ _ h => h) (fun _ h => h.drew) ?_
   simp only [pickO, nthO, List.drop_succ_cons, List.drop_zero]
   refine jkz ?_
   refine jkz ?_
   refine jkz ?_
   refine jkz ?_
   refine jkz ?_
   refine jky (y_len_str rfl) ?_
   refine jky (y_quo rfl rfl (by omega) (by omega) (by simp only [fits]; omega)) ?_
   refine jky (y_conv_u8 rfl) ?_
   refine jkz ?_
   refine jky (y_len_str rfl) ?_
   refine jky (y_rem rfl rfl (by omega) (by omega)) ?_
   refine jky (y_conv_u8 rfl) ?_
   refine jkz ?_
   refine js_m (by intros; rename_i h; first | exact h | exact h.pop | exact h.pop.pop | exact h.pop.pop.pop | exact h.pop.pop.pop.pop | exact h.pop.pop.pop.pop.pop | exact h.pop.pop.pop.pop.pop.pop | exact h.part .nil) rfl (by decide) rfl (m_buildSlice (by decide) (Built.cell rfl rfl rfl (by repeat constructor) (Built.cell rfl rfl rfl (by repeat constructor) Built.nil))) (fun b21 => ?_)
   refine js_y (by intro _ h; first | exact h | exact h.pop | exact h.pop.pop | exact h.pop.pop.pop | exact h.pop.pop.pop.pop | exact h.pop.pop.pop.pop.pop | exact h.pop.pop.pop.pop.pop.pop | exact h.part .nil) rfl (by decide) rfl (y_str_own rfl (by first | exact mem0 | exact mem1 | exact mem2 | exact mem3 | exact mem4 | exact mem5) (by repeat constructor)) ?_
   refine jky (y_concat rfl rfl (by rw [strOfNums_size]; show 2 + _ ≤ _; omega)) ?_
   refine js_as (u := .string (partS t)) (congrArg Value.string (by unfold partS; congr 2 <;> congr 2 <;> omega)) ?_
   refine jky (y_concat rfl rfl (by rw [partS_size']; omega)) ?_
   refine jkz ?_
   refine jkz ?_
   refine js_nil ?_
   refine jst ?_
   refine jl_nil ?_
   refine jq_end0 rfl ?_
   exact fun w' hw => ⟨rfl, by rw [wBlob_yes (by omega)]; exact (hw.part (.cons (by first | exact del0 | exact del1) .nil)).updd rfl⟩
   )

theorem rwhash_any (b : Nat) (x : WS) (t : ByteArray) (ht : t.size ≤ 1000000000) (w : World) (hx : x.1.size ≤ 1000000000) (hA : HA.ok w (.cells b [.string (x).1, .int .i64 (x).2])) :
  Calls Tryz.prog 43 #[.pointer (some ⟨b, 0, none⟩), .string t] w fun e w' => e = .returned (.tuple #[]) ∧ Upd w w' (.cells b [.string (x).1, .int .i64 (x).2]) (.cells b [.string (wHash x t).1, .int .i64 (wHash x t).2]) := by
 refine calls_of (n := 17) (E := [(0, .pointer (some ⟨b, 0, none⟩)), (1, .string t)]) (W := Hp w [b] [.cells b [.string (x).1, .int .i64 (x).2]]) Tryz.func43 rfl rfl (Nat.le_of_ble_eq_true rfl) rfl (Hp.start rfl hA) ?_
 refine jc_seq ?_
 refine jsr ?_
 refine jz ?_
 refine jy (y_len_str rfl) ?_
 refine jy (y_neq rfl rfl) ?_
 refine jl_prop (fun h6 => ?_) (fun h6 => ?_)
 ·first
  | (exfalso; omega)
  | (
   refine jnt ?_
   refine jc_true rfl ?_
   refine jsr ?_
   refine jz ?_
   refine juc (goes_func rfl) (fun w1 hw1 => rwfail_any b x 1 w1 hx hw1) ?_
   refine jnt ?_
   refine jc_ret ?_
   refine jq_then_ret ?_
   refine jq_ret0 rfl  ?_
   exact fun w' hw => ⟨rfl, by rw [wHash_no (by omega)]; exact hw.updd rfl⟩
   )
 ·first
  | (exfalso; omega)
  | (
   refine jnt ?_
   refine jc_false rfl ?_
   refine jc_skip ?_
   refine jq_then ?_
   refine jc_region ?_
   refine jz ?_
   refine jz ?_
   refine jz ?_
   refine jz ?_
   refine jz ?_
   refine jy (y_concat rfl rfl (by omega)) ?_
   refine jz ?_
   refine jz ?_
   refine jst ?_
   refine jl_nil ?_
   refine jq_end0 rfl ?_
   exact fun w' hw => ⟨rfl, by rw [wHash_yes (by omega)]; exact (hw.part (.cons (by first | exact del0 | exact del1) .nil)).updd rfl⟩
   )

theorem rwtext_any (b : Nat) (x : WS) (w : World) (h0 : CellAt w b 0 (.string x.1)) (h1 : CellAt w b 1 (.int .i64 x.2)) :
  Calls Tryz.prog 46 #[.pointer (some ⟨b, 0, none⟩)] w fun e w' => e = .returned (.string (wText x)) ∧ Ch [] w w' := by
 refine calls_of (n := 12) (E := [(0, .pointer (some ⟨b, 0, none⟩))]) (W := Hp w [] []) Tryz.func46 rfl rfl (Nat.le_of_ble_eq_true rfl) rfl (Hp.nil _ _) ?_
 refine jsr ?_
 refine jz ?_
 refine jnt ?_
 refine jc_seq ?_
 refine jsr ?_
 refine jz ?_
 refine jz ?_
 refine jz ?_
 refine jy (y_load_old rfl h1 (by simp)) ?_
 refine jy (y_neq rfl rfl) ?_
 refine jl_prop (fun h7 => ?_) (fun h7 => ?_)
 ·first
  | (exfalso; omega)
  | (
   refine jnt ?_
   refine jc_true rfl ?_
   refine jsr ?_
   refine jz ?_
   refine jnt ?_
   refine jc_ret ?_
   refine jq_then_ret ?_
   refine jq_ret1 rfl rfl ?_
   exact fun _ hw => ⟨by unfold wText; rw [if_neg (by omega)], hw.ch⟩
   )
 ·first
  | (exfalso; omega)
  | (
   refine jnt ?_
   refine jc_false rfl ?_
   refine jc_skip ?_
   refine jq_then ?_
   refine jsr ?_
   refine jz ?_
   refine jz ?_
   refine jz ?_
   refine jy (y_load_old rfl h0 (by simp)) ?_
   refine jz ?_
   refine jnt ?_
   refine jc_ret ?_
   refine jq_ret1 rfl rfl ?_
   exact fun _ hw => ⟨by unfold wText; rw [if_pos (by omega)], hw.ch⟩
   )

end Go.Proofs.YtomhcibbalhgkaaGreat