/- The walks of package coin, part eight: a whole transaction is read. Written by program (walk.py) out of a table of contracts and invariants. -/
import Derived.Test.YtomhcibbalhgkaaGreatCg
namespace Go.Proofs.YtomhcibbalhgkaaGreat
open Go.RowKit
set_option maxRecDepth 100000
set_option maxHeartbeats 2000000
set_option linter.unusedVariables false
set_option linter.unusedSimpArgs false
attribute [local irreducible] Yields Makes Writes

/-- Where a reader stands behind so many signatures; the inputs with these. -/
def sgX (S : ByteArray) (x : RS) : Nat → RS
  | 0 => x
  | n + 1 => blS S (sgX S x n) 400
def sgL (S : ByteArray) (x : RS) (l : List Inp) : Nat → List Inp
  | 0 => l
  | n + 1 => (sgL S x l n).modify n fun i => ⟨i.pt, i.path, blV S (sgX S x n) 400⟩
theorem sgX_ok {S : ByteArray} {x : RS} (h : okR S x) : ∀ n, okR S (sgX S x n)
  | 0 => h
  | n + 1 => blS_ok (sgX_ok h n)
theorem sgL_length (S : ByteArray) (x : RS) (l : List Inp) : ∀ n, (sgL S x l n).length = l.length
  | 0 => rfl
  | n + 1 => by show ((sgL S x l n).modify n _).length = _; rw [List.length_modify, sgL_length S x l n]
/-- A signature that is laid into an input that lies in a row of cells. -/
theorem flat_sig (s : ByteArray) : ∀ (l : List Inp) (n : Nat), n < l.length → ((l.modify n fun i => ⟨i.pt, i.path, s⟩).flatMap Inp.c) = (l.flatMap Inp.c).set (n * 4 + 3) (.string s)
  | [], n, h => absurd h (by simp)
  | i :: l, 0, _ => by simp [List.flatMap_cons, Inp.c]
  | i :: l, n + 1, h => by
    have h1 := flat_sig s l n (by simpa using h)
    rw [List.modify_succ_cons, List.flatMap_cons, List.flatMap_cons, h1, show (n + 1) * 4 + 3 = (n * 4 + 3) + 4 by omega]
    rfl
theorem flat_length (l : List Inp) : (l.flatMap Inp.c).length = l.length * 4 := by
  induction l with
  | nil => rfl
  | cons i l ih => rw [List.flatMap_cons, List.length_append, ih]; simp; omega
def tx0 : Trx := ⟨[], [], pf0⟩
/-- What is read behind the core: the signatures, the proof's bytes. -/
def dC (S : ByteArray) : ByteArray := blV S r00 4096
def dA (S : ByteArray) : RS := blS S r00 4096
def dI (S : ByteArray) : List Inp := sgL S (dA S) (coTrx (dC S)).ins (coTrx (dC S)).ins.length
def dB (S : ByteArray) : RS := sgX S (dA S) (coTrx (dC S)).ins.length
def dP (S : ByteArray) : ByteArray := blV S (dB S) 4096
def dE (S : ByteArray) : RS := blS S (dB S) 4096
def dT (S : ByteArray) : Trx := ⟨dI S, (coTrx (dC S)).outs, pfDec (dP S)⟩
def txErr (S : ByteArray) : Int :=
  if dC S = ⟨#[]⟩ then endE S (flS (dA S) 4)
  else if coErr (dC S) ≠ 0 then coErr (dC S)
  else if endE S (dE S) ≠ 0 ∧ endE S (dE S) ≠ 4 then endE S (dE S)
  else if pfErr (dP S) r00 ≠ 0 then pfErr (dP S) r00
  else if (dE S).1 < S.size ∨ txRight (dT S) = false then 4 else 0
def txDec (S : ByteArray) : Trx := if txErr S = 0 then dT S else tx0
theorem blV_small (S : ByteArray) (x : RS) (m : Int) : (blV S x m).size ≤ 1000000000 := by
  have h := lenV_range S x
  unfold blV
  split
  · rcases tkV_size S (blT S x m) (lenV S x) with h1 | h1 <;> rw [h1] <;> omega
  · exact Nat.zero_le _
theorem sg_next {S : ByteArray} {x : RS} {l : List Inp} {i : Nat} (h : i < l.length) : (sgL S x l (i + 1)).flatMap Inp.c = ((sgL S x l i).flatMap Inp.c).set (i * 4 + 3) (.string (blV S (sgX S x i) 400)) := flat_sig _ _ _ (by rw [sgL_length]; exact h)
theorem rep5 {A A' B C D F G : HA} {H : List HA} : Rep A A' (B :: C :: D :: F :: G :: A :: H) (B :: C :: D :: F :: G :: A' :: H) := .tail (.tail (.tail (.tail (.tail .head))))
theorem end_fail (S : ByteArray) (x : RS) : endE S (flS x 4) ≠ 0 := by
  unfold endE flS failE
  by_cases h : x.2 = 0
  · simp [h]
  · simp [h]
theorem te5 {S : ByteArray} (h : dC S = ⟨#[]⟩) : txErr S = endE S (flS (dA S) 4) := by unfold txErr; rw [if_pos h]
theorem te8 {S : ByteArray} (h : ¬ dC S = ⟨#[]⟩) (h2 : coErr (dC S) ≠ 0) : txErr S = coErr (dC S) := by unfold txErr; rw [if_neg h, if_pos h2]
theorem te17 {S : ByteArray} (h : ¬ dC S = ⟨#[]⟩) (h2 : coErr (dC S) = 0) (h3 : endE S (dE S) ≠ 0 ∧ endE S (dE S) ≠ 4) : txErr S = endE S (dE S) := by unfold txErr; rw [if_neg h, if_neg (by omega), if_pos h3]
theorem te20 {S : ByteArray} (h : ¬ dC S = ⟨#[]⟩) (h2 : coErr (dC S) = 0) (h3 : ¬ (endE S (dE S) ≠ 0 ∧ endE S (dE S) ≠ 4)) (h4 : pfErr (dP S) r00 ≠ 0) : txErr S = pfErr (dP S) r00 := by unfold txErr; rw [if_neg h, if_neg (by omega), if_neg h3, if_pos h4]
theorem te22 {S : ByteArray} (h : ¬ dC S = ⟨#[]⟩) (h2 : coErr (dC S) = 0) (h3 : ¬ (endE S (dE S) ≠ 0 ∧ endE S (dE S) ≠ 4)) (h4 : pfErr (dP S) r00 = 0) (h5 : (dE S).1 < S.size ∨ txRight (dT S) = false) : txErr S = 4 := by unfold txErr; rw [if_neg h, if_neg (by omega), if_neg h3, if_neg (by omega), if_pos h5]
theorem te23 {S : ByteArray} (h : ¬ dC S = ⟨#[]⟩) (h2 : coErr (dC S) = 0) (h3 : ¬ (endE S (dE S) ≠ 0 ∧ endE S (dE S) ≠ 4)) (h4 : pfErr (dP S) r00 = 0) (h5 : ¬ ((dE S).1 < S.size ∨ txRight (dT S) = false)) : txErr S = 0 ∧ txDec S = dT S := by
  have h6 : txErr S = 0 := by unfold txErr; rw [if_neg h, if_neg (by omega), if_neg h3, if_neg (by omega), if_neg h5]
  exact ⟨h6, by unfold txDec; rw [if_pos h6]⟩
theorem dec_zero {S : ByteArray} (h : txErr S ≠ 0) : txDec S = tx0 := by unfold txDec; rw [if_neg h]
theorem dA_ok (S : ByteArray) : okR S (dA S) := blS_ok (r00_ok S)
theorem dB_ok (S : ByteArray) : okR S (dB S) := sgX_ok (dA_ok S) _
theorem dE_ok (S : ByteArray) : okR S (dE S) := blS_ok (dB_ok S)
theorem dI_eq (S : ByteArray) : sgL S (dA S) (coTrx (dC S)).ins (coTrx (dC S)).ins.length = dI S := rfl
theorem dB_eq (S : ByteArray) : sgX S (dA S) (coTrx (dC S)).ins.length = dB S := rfl
theorem coLens (S : ByteArray) : (coTrx S).ins.length ≤ 4 ∧ (coTrx S).outs.length ≤ 4 := by rw [coLen1, coLen2]; exact ⟨(cN_le S).1, (cM_le S).1⟩
theorem dC_eq (S : ByteArray) : blV S r00 4096 = dC S := rfl
theorem dA_eq (S : ByteArray) : blS S r00 4096 = dA S := rfl
theorem dP_eq (S : ByteArray) : blV S (dB S) 4096 = dP S := rfl
theorem dE_eq (S : ByteArray) : blS S (dB S) 4096 = dE S := rfl
theorem dC_small (S : ByteArray) : (dC S).size ≤ 1000000000 := blV_small _ _ _
theorem dP_small (S : ByteArray) : (dP S).size ≤ 1000000000 := blV_small _ _ _
theorem dI_len (S : ByteArray) : (dI S).length = (coTrx (dC S)).ins.length := sgL_length _ _ _ _
theorem dT_lens (S : ByteArray) : (dT S).ins.length ≤ 4 ∧ (dT S).outs.length ≤ 4 ∧ (dT S).pf.wins.length ≤ 4 := by
  have h := coLens (dC S)
  refine ⟨by show (dI S).length ≤ 4; rw [dI_len]; exact h.1, h.2, ?_⟩
  show (pfDec (dP S)).wins.length ≤ 4
  unfold pfDec
  split
  · exact rdPf_len rfl
  · exact Nat.zero_le _
theorem coPf (S : ByteArray) : (coTrx S).pf = pf0 := rfl
attribute [local irreducible] dC dA dI dB dP dE coTrx

theorem codec_any (S : ByteArray) (w : World) (hS : S.size ≤ 1000000000) :
  Calls Tryz.prog 85 #[.string S] w fun e w' => ∃ pr : (Option Addr × Nat) × (Option Addr × Nat) × (Option Addr × Nat), e = .returned (.tuple #[.agg (Trx.c (txDec S) pr.1.1 pr.1.2 pr.2.1.1 pr.2.1.2 pr.2.2.1 pr.2.2.2).toArray, .int .i64 (txErr S)]) ∧ Hp w [] [.row pr.1.1 (txDec S).ins.length pr.1.2 97 4 ((txDec S).ins.flatMap Inp.c), .row pr.2.1.1 (txDec S).outs.length pr.2.1.2 56 9 ((txDec S).outs.flatMap Oup.c), .row pr.2.2.1 (txDec S).pf.wins.length pr.2.2.2 135 10 ((txDec S).pf.wins.flatMap Wn.c)] w' := by
 have hcl := coLens (dC S)
 refine calls_of (n := 77) (E := [(0, .string S)]) (W := Hp w [] []) Tryz.func85 rfl rfl (Nat.le_of_ble_eq_true rfl) rfl (Hp.nil _ _) ?_
 refine jsr ?_
 refine jl_m rfl (by decide) rfl (m_alloc) (fun b2 => ?_)
 refine jz ?_
 refine jnt ?_
 refine jsr ?_
 refine jz ?_
 refine jl_fcall rfl (by decide) rfl (goes_func rfl) (fun w1 hw1 => cread_any _ w1) (fun br => ?_)
 refine jz ?_
 refine jnt ?_
 refine jc_seq ?_
 refine jc_world (fun _ h => h.cast (H' := [.cells br [.string (S.extract (r00).1 S.size), .int .i64 (r00).2], .cells b2 [.slice none (0) 0, .slice none (0) 0, .int .u64 0, .string ⟨#[]⟩, .string ⟨#[]⟩, .slice none 0 0]]) (by rw [ext_all])) ?_
 refine jc_region ?_
 refine jz ?_
 refine juc (goes_func rfl) (fun w1 hw1 => cblob_any br S r00 4096 w1 hS (r00_ok S) hw1) ?_
 refine jl_as (u := .string (dC S)) (congrArg Value.string (dC_eq S)) ?_
 refine jz ?_
 refine jnt ?_
 refine jc_seq ?_
 refine jc_seq ?_
 refine jc_world (fun _ h => h.cast (H' := [.cells br [.string (S.extract (dA S).1 S.size), .int .i64 (dA S).2], .cells b2 [.slice none (0) 0, .slice none (0) 0, .int .u64 0, .string ⟨#[]⟩, .string ⟨#[]⟩, .slice none 0 0]]) (by rw [← dA_eq])) ?_
 refine jc_region ?_
 refine jz ?_
 refine jy (y_seql rfl rfl) ?_
 refine jl_prop (fun h16 => ?_) (fun h16 => ?_)
 ·skip
  refine jnt ?_
  refine jc_true rfl ?_
  refine jsr ?_
  refine jz ?_
  refine juc (goes_func rfl) (fun w1 hw1 => cfail_any br _ _ 4 w1 hw1) ?_
  refine jnt ?_
  refine jsr ?_
  refine jy (y_build Built.nil) ?_
  refine jz ?_
  refine jpc (goes_func rfl) (fun w1 hw1 => cend_any br S (flS (dA S) 4) w1 (flS_ok (dA_ok S)) (CellAt.of_cells (hw1.get (A := .cells br [.string (S.extract (flS (dA S) 4).1 S.size), .int .i64 (flS (dA S) 4).2]) mem0) rfl) (CellAt.of_cells (hw1.get (A := .cells br [.string (S.extract (flS (dA S) 4).1 S.size), .int .i64 (flS (dA S) 4).2]) mem0) rfl)) ?_
  refine jst ?_
  refine jz ?_
  refine jnt ?_
  refine jc_ret ?_
  refine jq_then_ret ?_
  refine jq_res (.inl rfl) rfl (.cell rfl (by first | exact ld_agg (by first | exact mem0 | exact mem1 | exact mem2 | exact mem3 | exact mem4 | exact mem5) (by repeat constructor) | exact ld_agg (by first | exact mem0 | exact mem1 | exact mem2 | exact mem3 | exact mem4 | exact mem5) (by assumption)) (.tmp rfl .nil)) ?_
  exact fun _ hw => (by have ht := te5 (by assumption); have hz : txErr S ≠ 0 := (by rw [ht]; exact end_fail _ _); have hd := dec_zero hz; exact ⟨((none, 0), (none, 0), (none, 0)), by rw [ht, hd]; rfl, by rw [hd]; exact (((Hp.of_ch hw.ch).nilrow 135 10).nilrow 56 9).nilrow 97 4⟩)
 ·skip
  refine jnt ?_
  refine jc_false rfl ?_
  refine jc_skip ?_
  refine jq_then ?_
  refine jsr ?_
  refine jz ?_
  refine jl_gcall2 rfl (by decide) rfl (goes_func rfl) (fun w1 hw1 => ccore_any (dC S) w1 (dC_small S)) (fun pr => ?_)
  refine jz ?_
  refine jz ?_
  refine jz ?_
  refine jl_m rfl (by decide) rfl (m_alloc) (fun b6 => ?_)
  refine jst ?_
  refine jz ?_
  refine jnt ?_
  refine jc_seq ?_
  refine jsr ?_
  refine jz ?_
  refine jy (y_neq rfl rfl) ?_
  refine jl_prop (fun h28 => ?_) (fun h28 => ?_)
  ·first
   | (exfalso; omega)
   | (
    refine jnt ?_
    refine jc_true rfl ?_
    refine jsr ?_
    refine jy (y_build Built.nil) ?_
    refine jz ?_
    refine jst ?_
    refine jz ?_
    refine jnt ?_
    refine jc_ret ?_
    refine jq_then_ret ?_
    refine jq_res (.inl rfl) rfl (.cell rfl (by first | exact ld_agg (by first | exact mem0 | exact mem1 | exact mem2 | exact mem3 | exact mem4 | exact mem5) (by repeat constructor) | exact ld_agg (by first | exact mem0 | exact mem1 | exact mem2 | exact mem3 | exact mem4 | exact mem5) (by assumption)) (.tmp rfl .nil)) ?_
    exact fun _ hw => (by have ht := te8 (by assumption) (by assumption); have hz : txErr S ≠ 0 := (by rw [ht]; exact (by assumption)); have hd := dec_zero hz; exact ⟨((none, 0), (none, 0), (none, 0)), by rw [ht, hd]; rfl, by rw [hd]; exact (((Hp.of_ch hw.ch).nilrow 135 10).nilrow 56 9).nilrow 97 4⟩)
    )
  ·first
   | (exfalso; omega)
   | (
    refine jnt ?_
    refine jc_false rfl ?_
    refine jc_skip ?_
    refine jq_then ?_
    refine jc_seq ?_
    refine jc_seq ?_
    obtain ⟨⟨a1, c1⟩, ⟨a2, c2⟩⟩ := pr
    refine jc_world (fun _ h => h.cast (H' := [.cells b6 [.slice a1 (coTrx (dC S)).ins.length c1, .slice a2 (coTrx (dC S)).outs.length c2, .int .u64 0, .string ⟨#[]⟩, .string ⟨#[]⟩, .slice none 0 0], .row a1 (coTrx (dC S)).ins.length c1 97 4 (((coTrx (dC S)).ins).flatMap Inp.c), .row a2 (coTrx (dC S)).outs.length c2 56 9 ((coTrx (dC S)).outs.flatMap Oup.c), .cells br [.string (S.extract (dA S).1 S.size), .int .i64 (dA S).2], .cells b2 [.slice none (0) 0, .slice none (0) 0, .int .u64 0, .string ⟨#[]⟩, .string ⟨#[]⟩, .slice none 0 0]]) (by simp only [coPf]; rfl)) ?_
    refine jc_region ?_
    refine jz ?_
    refine jz ?_
    refine jy (y_len_slice rfl) ?_
    refine jz ?_
    refine jnt ?_
    refine jc_block ?_
    refine jc_loop (fun (i : Nat) => [(2, .pointer (some ⟨b2, 0, none⟩)), (4, .pointer (some ⟨br, 0, none⟩)), (6, .pointer (some ⟨b6, 0, none⟩)), (33, .int .i64 (((coTrx (dC S)).ins.length : Nat) : Int)), (34, .int .i64 (i : Nat))]) (fun (i : Nat) => fun w' => i ≤ (coTrx (dC S)).ins.length ∧ Hp w [] [.cells b6 [.slice a1 (coTrx (dC S)).ins.length c1, .slice a2 (coTrx (dC S)).outs.length c2, .int .u64 0, .string ⟨#[]⟩, .string ⟨#[]⟩, .slice none 0 0], .row a1 (coTrx (dC S)).ins.length c1 97 4 ((sgL S (dA S) (coTrx (dC S)).ins i).flatMap Inp.c), .row a2 (coTrx (dC S)).outs.length c2 56 9 ((coTrx (dC S)).outs.flatMap Oup.c), .cells br [.string (S.extract (sgX S (dA S) i).1 S.size), .int .i64 (sgX S (dA S) i).2], .cells b2 [.slice none (0) 0, .slice none (0) 0, .int .u64 0, .string ⟨#[]⟩, .string ⟨#[]⟩, .slice none 0 0]] w') (fun (i : Nat) => (coTrx (dC S)).ins.length - i) 0 ?_ ?_ ?_
    ·exact ⟨rfl, rfl, rfl, rfl, rfl, trivial⟩
    ·exact fun _ h => ⟨by omega, h⟩
    ·intro i
     refine jc_and (fun hi => ?_)
     refine jsr ?_
     refine jy (y_lss rfl rfl) ?_
     refine jl_prop (fun h35 => ?_) (fun h35 => ?_)
     ·first
      | (exfalso; omega)
      | (
       have hlt : i < (coTrx (dC S)).ins.length := by omega
       refine jl_pure (p := ∃ b, a1 = some ⟨b, 0, none⟩) (fun w h => row_some (h.get (A := .row a1 (coTrx (dC S)).ins.length c1 97 4 ((sgL S (dA S) (coTrx (dC S)).ins i).flatMap Inp.c)) mem1) (by omega)) (fun hb => ?_)
       obtain ⟨bb, rfl⟩ := hb
       refine jnt ?_
       refine jc_seq ?_
       refine jc_true rfl ?_
       refine jc_skip ?_
       refine jq_then ?_
       refine jc_seq ?_
       refine jc_block ?_
       refine jsr ?_
       refine jz ?_
       refine jz ?_
       refine jnt ?_
       refine jc_schedC (Hp w [] [.cells b6 [.slice (some ⟨bb, 0, none⟩) (coTrx (dC S)).ins.length c1, .slice a2 (coTrx (dC S)).outs.length c2, .int .u64 0, .string ⟨#[]⟩, .string ⟨#[]⟩, .slice none 0 0]]) 7 [(0, true), (1, true), (2, true), (3, true), (4, false), (5, true), (6, true)] rfl (by kernel_rfl) (fun _ _ _ _ h => h) (fun _ h => (h.part (.cons (by first | exact del0 | exact del1) .nil)).drew) (fun _ h => h.drew) ?_
       simp only [pickO, nthO, List.drop_succ_cons, List.drop_zero]
       refine jkz ?_
       refine jkz ?_
       refine jkz ?_
       refine jkz ?_
       refine js_ucallH rfl (by decide) rfl (goes_func rfl) (by rfl) (fun w1 hw1 => cblob_any br S (sgX S (dA S) i) 400 w1 hS (sgX_ok (dA_ok S) i) (hw1.get mem3)) (by first | exact rep0 | exact rep1 | exact rep2 | exact rep3 | exact rep4 | exact rep5) (by intro _ h; exact h.part (.cons (by first | exact del0 | exact del1) .nil)) ?_
       refine jky (y_indexAddr_slice (off := i * 4) rfl rfl (by omega) (by omega) (by omega)) ?_
       refine jkz ?_
       refine js_nil ?_
       refine jl_w rfl rfl (w_store_row rfl rfl rfl (by rw [flat_length, sgL_length]; omega) rep1) ?_
       refine jl_nil ?_
       refine jq_block ?_
       refine jq_then ?_
       refine jc_region ?_
       refine jy (y_add_fits rfl rfl (by simp only [fits]; omega)) ?_
       refine jz ?_
       refine jl_nil ?_
       refine jq_round (i := i) (i + 1) ?_ ?_ ?_
       ·omega
       ·exact ⟨rfl, rfl, rfl, rfl, lk_int rfl (by omega), trivial⟩
       ·exact fun _ h => ⟨by omega, h.cast (by rw [sg_next hlt]; rfl)⟩
       )
     ·first
      | (exfalso; omega)
      | (
       refine jnt ?_
       refine jc_seq ?_
       refine jc_false rfl ?_
       refine jc_exit ?_
       refine jq_then_exit ?_
       refine jq_then_exit ?_
       refine jq_hit ?_
       refine jq_then ?_
       refine jc_seq ?_
       have hie : i = (coTrx (dC S)).ins.length := by omega
       refine jc_world (fun _ h => h.cast (H' := [.cells b6 [.slice a1 (coTrx (dC S)).ins.length c1, .slice a2 (coTrx (dC S)).outs.length c2, .int .u64 0, .string ⟨#[]⟩, .string ⟨#[]⟩, .slice none 0 0], .row a1 (coTrx (dC S)).ins.length c1 97 4 ((dI S).flatMap Inp.c), .row a2 (coTrx (dC S)).outs.length c2 56 9 ((coTrx (dC S)).outs.flatMap Oup.c), .cells br [.string (S.extract (dB S).1 S.size), .int .i64 (dB S).2], .cells b2 [.slice none (0) 0, .slice none (0) 0, .int .u64 0, .string ⟨#[]⟩, .string ⟨#[]⟩, .slice none 0 0]]) (by subst hie; rw [dI_eq, dB_eq])) ?_
       refine jc_region ?_
       refine jz ?_
       refine juc (goes_func rfl) (fun w1 hw1 => cblob_any br S (dB S) 4096 w1 hS (dB_ok S) hw1) ?_
       refine jl_as (u := .string (dP S)) (congrArg Value.string (dP_eq S)) ?_
       refine jz ?_
       refine jnt ?_
       refine jc_seq ?_
       refine jc_seq ?_
       refine jc_world (fun _ h => h.cast (H' := [.cells b6 [.slice a1 (coTrx (dC S)).ins.length c1, .slice a2 (coTrx (dC S)).outs.length c2, .int .u64 0, .string ⟨#[]⟩, .string ⟨#[]⟩, .slice none 0 0], .row a1 (coTrx (dC S)).ins.length c1 97 4 ((dI S).flatMap Inp.c), .row a2 (coTrx (dC S)).outs.length c2 56 9 ((coTrx (dC S)).outs.flatMap Oup.c), .cells br [.string (S.extract (dE S).1 S.size), .int .i64 (dE S).2], .cells b2 [.slice none (0) 0, .slice none (0) 0, .int .u64 0, .string ⟨#[]⟩, .string ⟨#[]⟩, .slice none 0 0]]) (by rw [← dE_eq])) ?_
       refine jc_region ?_
       refine jz ?_
       refine jpc (goes_func rfl) (fun w1 hw1 => cend_any br S (dE S) w1 (dE_ok S) (CellAt.of_cells (hw1.get (A := .cells br [.string (S.extract (dE S).1 S.size), .int .i64 (dE S).2]) mem3) rfl) (CellAt.of_cells (hw1.get (A := .cells br [.string (S.extract (dE S).1 S.size), .int .i64 (dE S).2]) mem3) rfl)) ?_
       refine jz ?_
       refine jnt ?_
       refine jsr ?_
       refine jz ?_
       refine jy (y_neq rfl rfl) ?_
       refine jl_prop (fun h50 => ?_) (fun h50 => ?_)
       ·first
        | (exfalso; omega)
        | (
         refine jz ?_
         refine jz ?_
         refine jy (y_neq rfl rfl) ?_
         refine jl_prop (fun h53 => ?_) (fun h53 => ?_)
         ·first
          | (exfalso; omega)
          | (
           refine jy (y_pick_true rfl rfl) ?_
           refine jnt ?_
           refine jc_true rfl ?_
           refine jsr ?_
           refine jy (y_build Built.nil) ?_
           refine jz ?_
           refine jst ?_
           refine jz ?_
           refine jnt ?_
           refine jc_ret ?_
           refine jq_then_ret ?_
           refine jq_res (.inl rfl) rfl (.cell rfl (by first | exact ld_agg (by first | exact mem0 | exact mem1 | exact mem2 | exact mem3 | exact mem4 | exact mem5) (by repeat constructor) | exact ld_agg (by first | exact mem0 | exact mem1 | exact mem2 | exact mem3 | exact mem4 | exact mem5) (by assumption)) (.tmp rfl .nil)) ?_
           exact fun _ hw => (by have ht := te17 (by assumption) (by omega) (by omega); have hz : txErr S ≠ 0 := (by rw [ht]; exact (by omega)); have hd := dec_zero hz; exact ⟨((none, 0), (none, 0), (none, 0)), by rw [ht, hd]; rfl, by rw [hd]; exact (((Hp.of_ch hw.ch).nilrow 135 10).nilrow 56 9).nilrow 97 4⟩)
           )
         ·first
          | (exfalso; omega)
          | (
           refine jy (y_pick_true rfl rfl) ?_
           refine jnt ?_
           refine jc_false rfl ?_
           refine jc_skip ?_
           refine jq_then ?_
           refine jc_seq ?_
           refine jsr ?_
           refine jz ?_
           refine jl_fcall rfl (by decide) rfl (goes_func rfl) (fun w1 hw1 => dec_any (dP S) w1 (dP_small S)) (fun pq => ?_)
           refine jz ?_
           refine jz ?_
           refine jz ?_
           refine jz ?_
           refine jst ?_
           refine jz ?_
           refine jnt ?_
           refine jsr ?_
           refine jz ?_
           refine jy (y_neq rfl rfl) ?_
           refine jl_prop (fun h64 => ?_) (fun h64 => ?_)
           ·first
            | (exfalso; omega)
            | (
             refine jnt ?_
             refine jc_true rfl ?_
             refine jsr ?_
             refine jy (y_build Built.nil) ?_
             refine jz ?_
             refine jst ?_
             refine jz ?_
             refine jnt ?_
             refine jc_ret ?_
             refine jq_then_ret ?_
             refine jq_res (.inl rfl) rfl (.cell rfl (by first | exact ld_agg (by first | exact mem0 | exact mem1 | exact mem2 | exact mem3 | exact mem4 | exact mem5) (by repeat constructor) | exact ld_agg (by first | exact mem0 | exact mem1 | exact mem2 | exact mem3 | exact mem4 | exact mem5) (by assumption)) (.tmp rfl .nil)) ?_
             exact fun _ hw => (by have ht := te20 (by assumption) (by omega) (by omega) (by assumption); have hz : txErr S ≠ 0 := (by rw [ht]; exact (by assumption)); have hd := dec_zero hz; exact ⟨((none, 0), (none, 0), (none, 0)), by rw [ht, hd]; rfl, by rw [hd]; exact (((Hp.of_ch hw.ch).nilrow 135 10).nilrow 56 9).nilrow 97 4⟩)
             )
           ·first
            | (exfalso; omega)
            | (
             refine jnt ?_
             refine jc_false rfl ?_
             refine jc_skip ?_
             refine jq_then ?_
             refine jc_seq ?_
             refine jc_seq ?_
             obtain ⟨a3, c3⟩ := pq
             refine jc_world (fun _ h => h.cast (H' := [.row a3 (dT S).pf.wins.length c3 135 10 ((dT S).pf.wins.flatMap Wn.c), .cells b6 (Trx.c (dT S) a1 c1 a2 c2 a3 c3), .row a1 (dT S).ins.length c1 97 4 ((dT S).ins.flatMap Inp.c), .row a2 (dT S).outs.length c2 56 9 ((dT S).outs.flatMap Oup.c), .cells br [.string (S.extract (dE S).1 S.size), .int .i64 (dE S).2], .cells b2 [.slice none (0) 0, .slice none (0) 0, .int .u64 0, .string ⟨#[]⟩, .string ⟨#[]⟩, .slice none 0 0]]) (by simp only [Trx.c, dT, dI_len])) ?_
             refine jc_region ?_
             refine jz ?_
             refine jpc (goes_func rfl) (fun w1 hw1 => cleft3_any br S (dE S) w1 (dE_ok S) (CellAt.of_cells (hw1.get (A := .cells br [.string (S.extract (dE S).1 S.size), .int .i64 (dE S).2]) mem4) rfl)) ?_
             refine jy (y_gtr rfl rfl) ?_
             refine jl_prop (fun h69 => ?_) (fun h69 => ?_)
             ·first
              | (exfalso; omega)
              | (
               refine jz ?_
               refine jsk ?_
               refine jsk ?_
               refine jsk ?_
               refine jy (y_pick_true rfl rfl) ?_
               refine jnt ?_
               refine jc_true rfl ?_
               refine jsr ?_
               refine jy (y_build Built.nil) ?_
               refine jst ?_
               refine jz ?_
               refine jnt ?_
               refine jc_ret ?_
               refine jq_then_ret ?_
               refine jq_res (.inl rfl) rfl (.cell rfl (by first | exact ld_agg (by first | exact mem0 | exact mem1 | exact mem2 | exact mem3 | exact mem4 | exact mem5) (by repeat constructor) | exact ld_agg (by first | exact mem0 | exact mem1 | exact mem2 | exact mem3 | exact mem4 | exact mem5) (by assumption)) (.tmp rfl .nil)) ?_
               exact fun _ hw => (by have ht := te22 (by assumption) (by omega) (by omega) (by omega) (by first | exact .inl (by omega) | exact .inr (by assumption)); have hz : txErr S ≠ 0 := (by rw [ht]; exact (by decide)); have hd := dec_zero hz; exact ⟨((none, 0), (none, 0), (none, 0)), by rw [ht, hd]; rfl, by rw [hd]; exact (((Hp.of_ch hw.ch).nilrow 135 10).nilrow 56 9).nilrow 97 4⟩)
               )
             ·first
              | (exfalso; omega)
              | (
               refine jz ?_
               refine jz ?_
               refine jpc (goes_func rfl) (fun w1 hw1 => txright_any (dT S) a1 c1 a2 c2 a3 c3 w1 (ElAt.of_row (fun _ => rfl) rfl (hw1.get (A := .row a1 (dT S).ins.length c1 97 4 ((dT S).ins.flatMap Inp.c)) mem2)) (ElAt.of_row (fun _ => rfl) rfl (hw1.get (A := .row a2 (dT S).outs.length c2 56 9 ((dT S).outs.flatMap Oup.c)) mem3)) (ElAt.of_row (fun _ => rfl) rfl (hw1.get (A := .row a3 (dT S).pf.wins.length c3 135 10 ((dT S).pf.wins.flatMap Wn.c)) mem0)) (by have := dT_lens S; omega) (by have := dT_lens S; omega) (by have := dT_lens S; omega)) ?_
               refine jl_bool (fun h72 => ?_) (fun h72 => ?_)
               ·skip
                refine jz ?_
                refine jy (y_pick_false rfl rfl) ?_
                refine jnt ?_
                refine jc_false rfl ?_
                refine jc_skip ?_
                refine jq_then ?_
                refine jsr ?_
                refine jz ?_
                refine jst ?_
                refine jz ?_
                refine jnt ?_
                refine jc_ret ?_
                refine jq_res (.inl rfl) rfl (.cell rfl (by first | exact ld_agg (by first | exact mem0 | exact mem1 | exact mem2 | exact mem3 | exact mem4 | exact mem5) (by repeat constructor) | exact ld_agg (by first | exact mem0 | exact mem1 | exact mem2 | exact mem3 | exact mem4 | exact mem5) (by assumption)) (.tmp rfl .nil)) ?_
                exact fun _ hw => (by have ht := te23 (S := S) (by assumption) (by omega) (by omega) (by omega) (by rintro (q | q); (first | omega); simp_all); exact ⟨((a1, c1), (a2, c2), (a3, c3)), by rw [ht.1, ht.2]; rfl, by rw [ht.2]; exact hw.part (.cons del2 (.cons del2 (.cons del0 .nil)))⟩)
               ·skip
                refine jz ?_
                refine jy (y_pick_false rfl rfl) ?_
                refine jnt ?_
                refine jc_true rfl ?_
                refine jsr ?_
                refine jy (y_build Built.nil) ?_
                refine jst ?_
                refine jz ?_
                refine jnt ?_
                refine jc_ret ?_
                refine jq_then_ret ?_
                refine jq_res (.inl rfl) rfl (.cell rfl (by first | exact ld_agg (by first | exact mem0 | exact mem1 | exact mem2 | exact mem3 | exact mem4 | exact mem5) (by repeat constructor) | exact ld_agg (by first | exact mem0 | exact mem1 | exact mem2 | exact mem3 | exact mem4 | exact mem5) (by assumption)) (.tmp rfl .nil)) ?_
                exact fun _ hw => (by have ht := te22 (by assumption) (by omega) (by omega) (by omega) (by first | exact .inl (by omega) | exact .inr (by assumption)); have hz : txErr S ≠ 0 := (by rw [ht]; exact (by decide)); have hd := dec_zero hz; exact ⟨((none, 0), (none, 0), (none, 0)), by rw [ht, hd]; rfl, by rw [hd]; exact (((Hp.of_ch hw.ch).nilrow 135 10).nilrow 56 9).nilrow 97 4⟩)
               )
             )
           )
         )
       ·first
        | (exfalso; omega)
        | (
         refine jz ?_
         refine jsk ?_
         refine jsk ?_
         refine jy (y_pick_false rfl rfl) ?_
         refine jnt ?_
         refine jc_false rfl ?_
         refine jc_skip ?_
         refine jq_then ?_
         refine jc_seq ?_
         refine jsr ?_
         refine jz ?_
         refine jl_fcall rfl (by decide) rfl (goes_func rfl) (fun w1 hw1 => dec_any (dP S) w1 (dP_small S)) (fun pq => ?_)
         refine jz ?_
         refine jz ?_
         refine jz ?_
         refine jz ?_
         refine jst ?_
         refine jz ?_
         refine jnt ?_
         refine jsr ?_
         refine jz ?_
         refine jy (y_neq rfl rfl) ?_
         refine jl_prop (fun h64 => ?_) (fun h64 => ?_)
         ·first
          | (exfalso; omega)
          | (
           refine jnt ?_
           refine jc_true rfl ?_
           refine jsr ?_
           refine jy (y_build Built.nil) ?_
           refine jz ?_
           refine jst ?_
           refine jz ?_
           refine jnt ?_
           refine jc_ret ?_
           refine jq_then_ret ?_
           refine jq_res (.inl rfl) rfl (.cell rfl (by first | exact ld_agg (by first | exact mem0 | exact mem1 | exact mem2 | exact mem3 | exact mem4 | exact mem5) (by repeat constructor) | exact ld_agg (by first | exact mem0 | exact mem1 | exact mem2 | exact mem3 | exact mem4 | exact mem5) (by assumption)) (.tmp rfl .nil)) ?_
           exact fun _ hw => (by have ht := te20 (by assumption) (by omega) (by omega) (by assumption); have hz : txErr S ≠ 0 := (by rw [ht]; exact (by assumption)); have hd := dec_zero hz; exact ⟨((none, 0), (none, 0), (none, 0)), by rw [ht, hd]; rfl, by rw [hd]; exact (((Hp.of_ch hw.ch).nilrow 135 10).nilrow 56 9).nilrow 97 4⟩)
           )
         ·first
          | (exfalso; omega)
          | (
           refine jnt ?_
           refine jc_false rfl ?_
           refine jc_skip ?_
           refine jq_then ?_
           refine jc_seq ?_
           refine jc_seq ?_
           obtain ⟨a3, c3⟩ := pq
           refine jc_world (fun _ h => h.cast (H' := [.row a3 (dT S).pf.wins.length c3 135 10 ((dT S).pf.wins.flatMap Wn.c), .cells b6 (Trx.c (dT S) a1 c1 a2 c2 a3 c3), .row a1 (dT S).ins.length c1 97 4 ((dT S).ins.flatMap Inp.c), .row a2 (dT S).outs.length c2 56 9 ((dT S).outs.flatMap Oup.c), .cells br [.string (S.extract (dE S).1 S.size), .int .i64 (dE S).2], .cells b2 [.slice none (0) 0, .slice none (0) 0, .int .u64 0, .string ⟨#[]⟩, .string ⟨#[]⟩, .slice none 0 0]]) (by simp only [Trx.c, dT, dI_len])) ?_
           refine jc_region ?_
           refine jz ?_
           refine jpc (goes_func rfl) (fun w1 hw1 => cleft3_any br S (dE S) w1 (dE_ok S) (CellAt.of_cells (hw1.get (A := .cells br [.string (S.extract (dE S).1 S.size), .int .i64 (dE S).2]) mem4) rfl)) ?_
           refine jy (y_gtr rfl rfl) ?_
           refine jl_prop (fun h69 => ?_) (fun h69 => ?_)
           ·first
            | (exfalso; omega)
            | (
             refine jz ?_
             refine jsk ?_
             refine jsk ?_
             refine jsk ?_
             refine jy (y_pick_true rfl rfl) ?_
             refine jnt ?_
             refine jc_true rfl ?_
             refine jsr ?_
             refine jy (y_build Built.nil) ?_
             refine jst ?_
             refine jz ?_
             refine jnt ?_
             refine jc_ret ?_
             refine jq_then_ret ?_
             refine jq_res (.inl rfl) rfl (.cell rfl (by first | exact ld_agg (by first | exact mem0 | exact mem1 | exact mem2 | exact mem3 | exact mem4 | exact mem5) (by repeat constructor) | exact ld_agg (by first | exact mem0 | exact mem1 | exact mem2 | exact mem3 | exact mem4 | exact mem5) (by assumption)) (.tmp rfl .nil)) ?_
             exact fun _ hw => (by have ht := te22 (by assumption) (by omega) (by omega) (by omega) (by first | exact .inl (by omega) | exact .inr (by assumption)); have hz : txErr S ≠ 0 := (by rw [ht]; exact (by decide)); have hd := dec_zero hz; exact ⟨((none, 0), (none, 0), (none, 0)), by rw [ht, hd]; rfl, by rw [hd]; exact (((Hp.of_ch hw.ch).nilrow 135 10).nilrow 56 9).nilrow 97 4⟩)
             )
           ·first
            | (exfalso; omega)
            | (
             refine jz ?_
             refine jz ?_
             refine jpc (goes_func rfl) (fun w1 hw1 => txright_any (dT S) a1 c1 a2 c2 a3 c3 w1 (ElAt.of_row (fun _ => rfl) rfl (hw1.get (A := .row a1 (dT S).ins.length c1 97 4 ((dT S).ins.flatMap Inp.c)) mem2)) (ElAt.of_row (fun _ => rfl) rfl (hw1.get (A := .row a2 (dT S).outs.length c2 56 9 ((dT S).outs.flatMap Oup.c)) mem3)) (ElAt.of_row (fun _ => rfl) rfl (hw1.get (A := .row a3 (dT S).pf.wins.length c3 135 10 ((dT S).pf.wins.flatMap Wn.c)) mem0)) (by have := dT_lens S; omega) (by have := dT_lens S; omega) (by have := dT_lens S; omega)) ?_
             refine jl_bool (fun h72 => ?_) (fun h72 => ?_)
             ·skip
              refine jz ?_
              refine jy (y_pick_false rfl rfl) ?_
              refine jnt ?_
              refine jc_false rfl ?_
              refine jc_skip ?_
              refine jq_then ?_
              refine jsr ?_
              refine jz ?_
              refine jst ?_
              refine jz ?_
              refine jnt ?_
              refine jc_ret ?_
              refine jq_res (.inl rfl) rfl (.cell rfl (by first | exact ld_agg (by first | exact mem0 | exact mem1 | exact mem2 | exact mem3 | exact mem4 | exact mem5) (by repeat constructor) | exact ld_agg (by first | exact mem0 | exact mem1 | exact mem2 | exact mem3 | exact mem4 | exact mem5) (by assumption)) (.tmp rfl .nil)) ?_
              exact fun _ hw => (by have ht := te23 (S := S) (by assumption) (by omega) (by omega) (by omega) (by rintro (q | q); (first | omega); simp_all); exact ⟨((a1, c1), (a2, c2), (a3, c3)), by rw [ht.1, ht.2]; rfl, by rw [ht.2]; exact hw.part (.cons del2 (.cons del2 (.cons del0 .nil)))⟩)
             ·skip
              refine jz ?_
              refine jy (y_pick_false rfl rfl) ?_
              refine jnt ?_
              refine jc_true rfl ?_
              refine jsr ?_
              refine jy (y_build Built.nil) ?_
              refine jst ?_
              refine jz ?_
              refine jnt ?_
              refine jc_ret ?_
              refine jq_then_ret ?_
              refine jq_res (.inl rfl) rfl (.cell rfl (by first | exact ld_agg (by first | exact mem0 | exact mem1 | exact mem2 | exact mem3 | exact mem4 | exact mem5) (by repeat constructor) | exact ld_agg (by first | exact mem0 | exact mem1 | exact mem2 | exact mem3 | exact mem4 | exact mem5) (by assumption)) (.tmp rfl .nil)) ?_
              exact fun _ hw => (by have ht := te22 (by assumption) (by omega) (by omega) (by omega) (by first | exact .inl (by omega) | exact .inr (by assumption)); have hz : txErr S ≠ 0 := (by rw [ht]; exact (by decide)); have hd := dec_zero hz; exact ⟨((none, 0), (none, 0), (none, 0)), by rw [ht, hd]; rfl, by rw [hd]; exact (((Hp.of_ch hw.ch).nilrow 135 10).nilrow 56 9).nilrow 97 4⟩)
             )
           )
         )
       )
    )

end Go.Proofs.YtomhcibbalhgkaaGreat