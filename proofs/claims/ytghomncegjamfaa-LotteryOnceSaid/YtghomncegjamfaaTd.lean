/- The walks of the tags, the halves and the digits, in both packages. Written by program (walk.py) out of a table of contracts and invariants. -/
import Derived.Test.YtghomncegjamfaaRc
namespace Go.Proofs.Ytghomncegjamfaa
open Go.RowKit
set_option maxRecDepth 100000
set_option linter.unusedVariables false
set_option linter.unusedSimpArgs false
attribute [local irreducible] Yields Makes Writes
theorem bAt_ints (s : ByteArray) (i : Nat) : (bAt s i : Int) = (ints s).getD i 0 := by
  unfold bAt ints
  rw [List.getD_eq_getElem?_getD, List.getElem?_map]
  cases s.data.toList[i]? <;> rfl
theorem and15 (c : Int) (h0 : 0 ≤ c) (h1 : c ≤ 255) : bits .and .u8 c 15 = c % 16 := by
  obtain ⟨n, rfl⟩ := Int.eq_ofNat_of_zero_le h0
  have h : ∀ n : Fin 256, bits .and .u8 ((n.val : Nat) : Int) 15 = ((n.val : Nat) : Int) % 16 := by decide +kernel
  exact h ⟨n, by omega⟩
def digS : ByteArray := ⟨#[48, 49, 50, 51, 52, 53, 54, 55, 56, 57, 97, 98, 99, 100, 101, 102]⟩
theorem dig_at (x : Int) (h0 : 0 ≤ x) (h1 : x < 16) : (bAt digS x.toNat : Int) = hexD x := by
  obtain ⟨n, rfl⟩ := Int.eq_ofNat_of_zero_le h0
  have h : ∀ n : Fin 16, (bAt digS n.val : Int) = hexD ((n.val : Nat) : Int) := by decide +kernel
  exact h ⟨n, by omega⟩
def hexL (l : List Int) : List Int := l.flatMap fun c => [hexD (c / 16), hexD (c % 16)]
theorem hexL_append (a b : List Int) : hexL (a ++ b) = hexL a ++ hexL b := by simp [hexL]
theorem hex2 (l : List Int) (c : Int) : (hexL l).map (Value.int .u8) ++ [.int .u8 (hexD (c / 16)), .int .u8 (hexD (c % 16))] = (hexL (l ++ [c])).map (Value.int .u8) := by
  rw [hexL_append]; simp [hexL]
theorem strOfNums_append (a b : List Int) : strOfNums a ++ strOfNums b = strOfNums (a ++ b) := by
  apply ByteArray.ext; simp [strOfNums]
theorem hexS_done (s : ByteArray) (i : Nat) (h : i = s.size) : strOfNums (hexL ((ints s).take i)) = hexS s := by
  rw [List.take_of_length_le (by rw [ints_length]; omega)]; rfl
theorem hexL_length (l : List Int) : (hexL l).length = 2 * l.length := by
  induction l with
  | nil => rfl
  | cons x xs ih => simp only [hexL, List.flatMap_cons, List.length_append, List.length_cons, List.length_nil] at ih ⊢; omega
theorem hexS_size (s : ByteArray) : (hexS s).size = 2 * s.size := by
  have : hexS s = strOfNums (hexL (ints s)) := rfl
  rw [this, strOfNums_size, hexL_length, ints_length]
theorem hexT_size (s : ByteArray) (i : Nat) : (strOfNums (hexL ((ints s).take i))).size ≤ 2 * s.size := by
  rw [strOfNums_size, hexL_length, List.length_take, ints_length]; omega
/-- What a tag sums up. -/
def tagPre (word : ByteArray) (l : List ByteArray) : ByteArray := l.foldl (fun s p => s ++ partS p) (oneB word.size ++ word)
theorem tagPre_snoc (w : ByteArray) (l : List ByteArray) (p : ByteArray) : tagPre w (l ++ [p]) = tagPre w l ++ partS p := by simp [tagPre, List.foldl_append]
theorem partS_size (p : ByteArray) : (partS p).size = 2 + p.size := by simp [partS, strOfNums_size]
theorem take_get {α : Type} {l : List α} {i : Nat} {p : α} (h : l[i]? = some p) : l.take (i + 1) = l.take i ++ [p] := by rw [List.take_add_one, h]; rfl
theorem tagPre_size (w : ByteArray) (l : List ByteArray) (hB : ∀ p ∈ l, p.size ≤ 1000000) : ∀ i, i ≤ l.length → (tagPre w (l.take i)).size ≤ 1 + w.size + i * 1000002
  | 0, _ => by simp [tagPre, oneB, strOfNums_size]
  | i + 1, h => by
    have hp : l[i]? = some l[i] := List.getElem?_eq_getElem (by omega)
    have h2 := hB l[i] (List.getElem_mem _)
    have ih := tagPre_size w l hB i (by omega)
    rw [take_get hp, tagPre_snoc, ByteArray.size_append, partS_size]
    omega

theorem tag_any (word : ByteArray) (ad : Option Addr) (c : Nat) (ps : List ByteArray) (w : World) (hw : word.size ≤ 1000000) (hl : ps.length ≤ 900) (hB : ∀ p ∈ ps, p.size ≤ 1000000) (hps : Strs w ad ps) :
  Calls Try.prog 54 #[.string word, .slice ad ps.length c] w fun e w' => e = .returned (.string (tagS word ps)) ∧ Ch [] w w' := by
 refine calls_of (n := 37) (E := [(0, .string word), (1, .slice ad ps.length c)]) (W := Hp w [] []) Try.func54 rfl rfl (Nat.le_of_ble_eq_true rfl) rfl (Hp.nil _ _) ?_
 refine jsr ?_
 refine jz ?_
 refine jnt ?_
 refine jsr ?_
 refine jz ?_
 refine jy (y_len_str rfl) ?_
 first | refine jy (y_conv_fits rfl (by simp only [fits]; omega)) ?_ | refine jy (y_conv_u8 rfl) ?_
 refine jl_m rfl (by decide) rfl (m_buildSlice (by decide) (Built.cell rfl rfl rfl (by repeat constructor) Built.nil)) (fun b11 => ?_)
 refine jy (y_str_own rfl (by first | exact mem0 | exact mem1 | exact mem2 | exact mem3 | exact mem4 | exact mem5) (by repeat constructor)) ?_
 refine jz ?_
 refine jy (y_concat rfl rfl (by simp only [ByteArray.size_append, strOfNums_size, List.length_cons, List.length_nil]; omega)) ?_
 refine jz ?_
 refine jnt ?_
 refine jc_seq ?_
 refine jsr ?_
 refine jz ?_
 refine jy (y_len_slice rfl) ?_
 refine jz ?_
 refine jnt ?_
 refine jc_block ?_
 refine jc_loop (fun (i : Nat) => [(5, .string (tagPre word (ps.take i))), (15, .slice ad ps.length c), (16, .int .i64 ps.length), (17, .int .i64 (i : Nat))]) (fun (i : Nat) => fun w' => i ≤ ps.length ∧ Hp w [] [] w') (fun (i : Nat) => ps.length - i) 0 ?_ ?_ ?_
 ·exact ⟨rfl, rfl, rfl, rfl, trivial⟩
 ·exact fun _ h => ⟨by omega, h.part .nil⟩
 ·intro i
  refine jc_and (fun hi => ?_)
  have hsz := tagPre_size word ps hB i hi
  refine jsr ?_
  refine jy (y_lss rfl rfl) ?_
  refine jl_prop (fun h18 => ?_) (fun h18 => ?_)
  ·first
   | (exfalso; omega)
   | (
    have hi' : i < ps.length := by omega
    obtain ⟨p, hp⟩ : ∃ p, ps[i]? = some p := ⟨_, List.getElem?_eq_getElem hi'⟩
    have hpB := hB p (List.mem_of_getElem? hp)
    obtain ⟨bb, oo, rfl, hc⟩ := hps i p hp
    refine jnt ?_
    refine jc_seq ?_
    refine jc_true rfl ?_
    refine jc_skip ?_
    refine jq_then ?_
    refine jc_seq ?_
    refine jc_block ?_
    refine jsr ?_
    refine jy (y_indexAddr_slice (off := oo + i) rfl rfl (by omega) (by omega) (by omega)) ?_
    refine jy (y_load_old rfl hc (by simp)) ?_
    refine jz ?_
    refine jnt ?_
    refine jc_region ?_
    refine jz ?_
    refine jz ?_
    refine jy (y_len_str rfl) ?_
    refine jy (y_shr_by (m := 256) rfl rfl (by decide) (by decide) (by decide)) ?_
    first | refine jy (y_conv_fits rfl (by simp only [fits]; omega)) ?_ | refine jy (y_conv_u8 rfl) ?_
    refine jz ?_
    refine jy (y_len_str rfl) ?_
    first | refine jy (y_conv_fits rfl (by simp only [fits]; omega)) ?_ | refine jy (y_conv_u8 rfl) ?_
    refine jl_m rfl (by decide) rfl (m_buildSlice (by decide) (Built.cell rfl rfl rfl (by repeat constructor) (Built.cell rfl rfl rfl (by repeat constructor) Built.nil))) (fun b29 => ?_)
    refine jy (y_str_own rfl (by first | exact mem0 | exact mem1 | exact mem2 | exact mem3 | exact mem4 | exact mem5) (by repeat constructor)) ?_
    refine jz ?_
    refine jy (y_concat rfl rfl (by simp only [ByteArray.size_append, strOfNums_size, List.length_cons, List.length_nil]; omega)) ?_
    refine jy (y_concat rfl rfl (by simp only [ByteArray.size_append, strOfNums_size, List.length_cons, List.length_nil]; omega)) ?_
    refine jl_as (u := .string (tagPre word (ps.take (i + 1)))) (by rw [take_get hp, tagPre_snoc]; rfl) ?_
    refine jz ?_
    refine jl_nil ?_
    refine jq_block ?_
    refine jq_then ?_
    refine jc_region ?_
    refine jy (y_add_fits rfl rfl (by simp only [fits]; omega)) ?_
    refine jz ?_
    refine jl_nil ?_
    refine jq_round (i := i) (i + 1) ?_ ?_ ?_
    ·omega
    ·exact ⟨rfl, rfl, rfl, lk_int rfl (by omega), trivial⟩
    ·exact fun _ h => ⟨by omega, h.part .nil⟩
    )
  ·first
   | (exfalso; omega)
   | (
    refine jnt ?_
    refine jc_seq ?_
    refine jc_false rfl ?_
    refine jc_exit ?_
    refine jq_then_exit ?_
    refine jq_then_exit ?_
    refine jq_hit ?_
    refine jq_then ?_
    refine jsr ?_
    refine jz ?_
    refine jpc (goes_func rfl) (fun w1 hw1 => short_any _ w1 (by omega)) ?_
    refine jl_as (u := .string (tagS word ps)) (by have e : i = ps.length := (by omega); rw [e, List.take_length]; rfl) ?_
    refine jz ?_
    refine jnt ?_
    refine jc_ret ?_
    refine jq_ret1 rfl rfl ?_
    exact fun _ hw => ⟨rfl, hw.ch⟩
    )

end Go.Proofs.Ytghomncegjamfaa