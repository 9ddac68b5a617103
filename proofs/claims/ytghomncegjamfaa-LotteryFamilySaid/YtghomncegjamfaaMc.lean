/- The walk of LotteryFamily. Written by program (walk.py) out of a table of contracts and invariants. -/
import Derived.Test.YtghomncegjamfaaLz
import Derived.Test.YtghomncegjamfaaJy
import Derived.Test.YtghomncegjamfaaJz
import Derived.Test.YtghomncegjamfaaMk3
namespace Go.Proofs.Ytghomncegjamfaa
open Go.RowKit
set_option maxRecDepth 100000
set_option maxHeartbeats 2000000
set_option linter.unusedVariables false
set_option linter.unusedSimpArgs false
attribute [local irreducible] Yields Makes Writes
attribute [local irreducible] commitS signK rootK
def famO (m k ws : Int) (r : Nat) : Of := ⟨strCh, 1, m * k, ws, m, commitS strSalt r, strSalt, r, false⟩
def famB (K : ByteArray) (m k ws : Int) (r : Nat) : Bk := ⟨strCh, K, 2, [famO m k ws r]⟩
def famT (m k ws : Int) (r : Nat) (c : Int) (s : ByteArray) : Tk := ⟨strCh, 1, m * k, ws, m, commitS strSalt r, c, s⟩
theorem fam_made {K : ByteArray} {m k ws : Int} {r : Nat} (hm : 1 ≤ m ∧ m ≤ 12) (hw : 0 ≤ ws ∧ ws ≤ m) (hk : 1 ≤ k ∧ k ≤ 1000) (hr : (r : Int) < m) :
    makeE ⟨strCh, K, 1, []⟩ (m * k) ws m strSalt r = 0 ∧ makeO ⟨strCh, K, 1, []⟩ (m * k) ws m strSalt r = famO m k ws r ∧ makeB ⟨strCh, K, 1, []⟩ (m * k) ws m strSalt r = famB K m k ws r := by
  have h := fam_make (ch := strCh) (cl := K) (salt := strSalt) (by decide) (by decide) hm hw hk hr
  refine ⟨h.1, ?_, ?_⟩
  · unfold makeO; rw [if_pos h.1, h.2.1]; rfl
  · unfold makeB; rw [if_pos h.1, h.2.1]; rfl
theorem famO_fit {m k ws : Int} {r : Nat} (hm : 1 ≤ m ∧ m ≤ 12) (hw : 0 ≤ ws ∧ ws ≤ m) (hf : 0 ≤ m * k ∧ m * k ≤ 12000) (hr : (r : Int) < m) : (famO m k ws r).Fit := ⟨(⟨by decide, by decide⟩ : fits .u64 1), ⟨hf.1, by show m * k ≤ 18446744073709551615; omega⟩, ⟨hw.1, by show ws ≤ 18446744073709551615; omega⟩, ⟨by show 0 ≤ m; omega, by show m ≤ 18446744073709551615; omega⟩, ⟨by show 0 ≤ (r : Int); omega, by show (r : Int) ≤ 18446744073709551615; omega⟩⟩
theorem famB_fit {K : ByteArray} {m k ws : Int} {r : Nat} (hm : 1 ≤ m ∧ m ≤ 12) (hw : 0 ≤ ws ∧ ws ≤ m) (hf : 0 ≤ m * k ∧ m * k ≤ 12000) (hr : (r : Int) < m) : (famB K m k ws r).Fit := one_fit ⟨by decide, by decide⟩ (famO_fit hm hw hf hr) ⟨show strCh.size ≤ 1000 by decide, commit_sz _ _, show strSalt.size ≤ 1000 by decide⟩
theorem famT_fit {m k ws : Int} {r : Nat} {c : Int} {s : ByteArray} (hm : 1 ≤ m ∧ m ≤ 12) (hw : 0 ≤ ws ∧ ws ≤ m) (hf : 0 ≤ m * k ∧ m * k ≤ 12000) (hc : fits .u64 c) : (famT m k ws r c s).Fit := ⟨(⟨by decide, by decide⟩ : fits .u64 1), ⟨hf.1, by show m * k ≤ 18446744073709551615; omega⟩, ⟨hw.1, by show ws ≤ 18446744073709551615; omega⟩, ⟨by show 0 ≤ m; omega, by show m ≤ 18446744073709551615; omega⟩, hc⟩
theorem fam_sig_size (sd : ByteArray) (m k ws : Int) (r : Nat) (c : Int) : (signK sd 0 0 (tkText (famT m k ws r c ⟨#[]⟩))).size ≤ 400 := by rw [signK_size sd (h := 0) (i := 0) (by decide)]; decide
theorem fam_win {sd : ByteArray} {m k ws : Int} {r : Nat} {c : Int} (hm : 1 ≤ m ∧ m ≤ 12) (hw : 0 ≤ ws ∧ ws ≤ m) (hk : 1 ≤ k ∧ k ≤ 1000) (hr : (r : Int) < m) : ∀ t, t = famT m k ws r c (signK sd 0 0 (tkText (famT m k ws r c ⟨#[]⟩))) →
    Value.tuple #[.int .u64 (takeV (famB (rootK sd 0) m k ws r) t), .agg (Wn.c (takeW (famB (rootK sd 0) m k ws r) t)).toArray, .bool (takeI (famB (rootK sd 0) m k ws r) t), .int .i64 (takeE (famB (rootK sd 0) m k ws r) t)] = .tuple #[.int .u64 (k * ws), .agg (Wn.c ⟨t, strSalt, r⟩).toArray, .bool (decide (((r : Int) + c % m) % m < ws)), .int .i64 0] := by
  intro t ht
  have hx := take_at (b := famB (rootK sd 0) m k ws r) (i := 0) (c := c) (s := signK sd 0 0 (tkText (famT m k ws r c ⟨#[]⟩))) (f_rise _) (by decide : 0 < 1)
  have hsg : signedB (rootK sd 0) (tkSig (famO m k ws r) c (signK sd 0 0 (tkText (tkOf (famO m k ws r) c)))) = true := signed_key sd (h := 0) (i := 0) (by decide) (by decide) (o := famO m k ws r) (c := c) (show strCh.size = 16 by decide) (commitS_size _ _) (fam_sig_size sd m k ws r c)
  have ho : takeO (famB (rootK sd 0) m k ws r) t = famO m k ws r := by rw [ht]; exact hx.2
  have he : takeE (famB (rootK sd 0) m k ws r) t = 0 := by
    rw [ht]
    refine hx.1.trans ?_
    rw [if_neg (by show ¬ false = true; decide), if_pos (by exact hsg)]
  have hn := fam_make (ch := strCh) (cl := rootK sd 0) (salt := strSalt) (by decide) (by decide) hm hw hk hr
  rw [show takeV (famB (rootK sd 0) m k ws r) t = k * ws by unfold takeV; rw [if_pos he, ho]; exact hn.2.2.2, show takeW (famB (rootK sd 0) m k ws r) t = ⟨t, strSalt, r⟩ by unfold takeW; rw [if_pos he, ho]; rfl,
    show takeI (famB (rootK sd 0) m k ws r) t = decide (((r : Int) + c % m) % m < ws) by unfold takeI; rw [if_pos he, ho, ht]; exact winsB_cnt (m := m) ⟨hm.1, by omega⟩ hw.2 hr, he]
theorem fam_bare {K : ByteArray} {m k ws : Int} {r : Nat} {c : Int} : takeE (famB K m k ws r) (famT m k ws r c ⟨#[]⟩) = 10 := by
  have h := (take_at (b := famB K m k ws r) (i := 0) (c := c) (s := ⟨#[]⟩) (f_rise _) (by decide : 0 < 1)).1
  refine h.trans ?_
  rw [if_neg (by show ¬ false = true; decide), if_neg (by show ¬ signedB K (tkSig (famO m k ws r) c ⟨#[]⟩) = true; rw [signed_none]; decide)]

theorem lotteryFamily_t (s : ByteArray) (o0 o1 o2 o3 : Int) (w : World) (f0 : fits .u64 o0) (f1 : fits .u64 o1) (f2 : fits .u64 o2) (f3 : fits .u64 o3) :
  Calls Try.prog 3 #[.string s, .agg #[.int .u64 o0, .int .u64 o1, .int .u64 o2, .int .u64 o3], .bool true] w fun e w' => e = .returned (.bool true) ∧ Ch [] w w' := by
 obtain ⟨m, hm⟩ : ∃ m : Int, m = 1 + o0 % 12 := ⟨_, rfl⟩
 obtain ⟨ws, hws⟩ : ∃ x : Int, x = o1 % (m + 1) := ⟨_, rfl⟩
 obtain ⟨k, hk⟩ : ∃ x : Int, x = 1 + o2 % 1000 := ⟨_, rfl⟩
 have hg0 := f0
 have hg1 := f1
 have hg2 := f2
 simp only [fits] at hg0 hg1 hg2
 have hm1 : 1 ≤ m ∧ m ≤ 12 := by omega
 have hwa := Int.emod_nonneg o1 (show m + 1 ≠ 0 by omega)
 have hwb := Int.emod_lt_of_pos o1 (show 0 < m + 1 by omega)
 rw [← hws] at hwa hwb
 have hw1x : 0 ≤ ws ∧ ws ≤ m := by omega
 have hk1 : 1 ≤ k ∧ k ≤ 1000 := by omega
 have hf1 : 0 ≤ m * k ∧ m * k ≤ 12000 := ⟨Int.mul_nonneg (by omega) (by omega), (Int.mul_le_mul hm1.2 hk1.2 (by omega) (by decide) : m * k ≤ 12 * 1000)⟩
 have hkw : 0 ≤ k * ws ∧ k * ws ≤ 12000 := ⟨Int.mul_nonneg (by omega) (by omega), (Int.mul_le_mul hk1.2 (show ws ≤ 12 by omega) (by omega) (by decide) : k * ws ≤ 1000 * 12)⟩
 have hall : 0 ≤ m * (k * ws) ∧ m * (k * ws) ≤ 144000 := ⟨Int.mul_nonneg (by omega) hkw.1, (Int.mul_le_mul hm1.2 hkw.2 hkw.1 (by decide) : m * (k * ws) ≤ 12 * 12000)⟩
 have hff : fits .u64 (m * k) := by simp only [fits]; omega
 have hfw : fits .u64 ws := by simp only [fits]; omega
 have hfmm : fits .u64 m := by simp only [fits]; omega
 have hsd := cutS_size s 50
 have hc1 := Int.emod_nonneg o3 (show m ≠ 0 by omega)
 have hc2 := Int.emod_lt_of_pos o3 (show 0 < m by omega)
 have hkz := rootK_size (cutS s 50) (h := 0) (by decide)
 refine calls_of (n := 179) (E := [(0, .string s), (1, .agg #[.int .u64 o0, .int .u64 o1, .int .u64 o2, .int .u64 o3]), (2, .bool true)]) (W := Hp w [] []) Try.func3 rfl rfl (Nat.le_of_ble_eq_true rfl) rfl (Hp.nil _ _) ?_
 refine jsr ?_
 refine jl_m rfl (by decide) rfl (m_box rfl rfl) (fun b4 => ?_)
 refine jz ?_
 refine jnt ?_
 refine jsr ?_
 refine jz ?_
 refine jz ?_
 refine jy (y_len_str rfl) ?_
 refine jy (y_min rfl rfl) ?_
 refine jy (y_substr_hi rfl rfl (by omega) (by omega)) ?_
 refine jl_as (congrArg Value.string (cut_eq _ 50)) ?_
 refine jl_gcallL rfl (by decide) rfl (goes_func rfl) (fun w1 hw1 => mnew_own (cutS s 50) 0 w1 (by omega) (by decide)) (fun kb => ?_)
 refine jz ?_
 refine jz ?_
 refine jz ?_
 refine jz ?_
 refine jz ?_
 refine jnt ?_
 refine jc_seq ?_
 refine jsr ?_
 refine jz ?_
 refine jy (y_eql_nil rfl rfl) ?_
 refine jl_as (u := .bool false) rfl ?_
 refine jz ?_
 refine jz ?_
 refine jy (y_neq rfl rfl) ?_
 refine jl_prop (fun h41 => ?_) (fun h41 => ?_)
 ·first
  | (exfalso; omega)
  | (
   refine jy (y_pick_false rfl rfl) ?_
   refine jnt ?_
   refine jc_true rfl ?_
   refine jsr ?_
   refine jz ?_
   refine jnt ?_
   refine jc_ret ?_
   refine jq_then_ret ?_
   refine jq_ret1 rfl rfl ?_
   exact fun _ hw => ⟨rfl, hw.ch⟩
   )
 ·first
  | (exfalso; omega)
  | (
   refine jy (y_pick_false rfl rfl) ?_
   refine jnt ?_
   refine jc_false rfl ?_
   refine jc_skip ?_
   refine jq_then ?_
   refine jsr ?_
   refine jy (y_indexAddr_arr rfl rfl (by omega) (by omega) (by simp only [Int.toNat_natCast, Int.reduceSub, Int.reduceAdd, Int.reduceToNat, Nat.reduceMul, Nat.reduceAdd, Nat.zero_add, Nat.mul_one, Nat.zero_mul, Nat.add_zero]; exact rfl)) ?_
   refine jz ?_
   refine jy (y_rem rfl rfl (by omega) (by omega)) ?_
   refine jy (y_add_u64 rfl rfl) ?_
   refine jl_as (u := .int .u64 m) (congrArg (Value.int .u64) (by omega)) ?_
   refine jz ?_
   refine jnt ?_
   refine jc_seq ?_
   refine jc_world (fun _ h => h.cast (H' := [.cells b4 [.int .u64 o0, .int .u64 o1, .int .u64 o2, .int .u64 o3], kyL kb.2 (cutS s 50) 0, kyK kb.1.1 kb.1.2 kb.2 (cutS s 50) 0, kyC kb.1.2 0 0]) rfl) ?_
   refine jc_draw (by kernel_rfl) (fun _ h => h.drew) ?_
   refine juy (y_indexAddr_arr rfl rfl (by omega) (by omega) (by simp only [Int.toNat_natCast, Int.reduceSub, Int.reduceAdd, Int.reduceToNat, Nat.reduceMul, Nat.reduceAdd, Nat.zero_add, Nat.mul_one, Nat.zero_mul, Nat.add_zero]; exact rfl)) ?_
   refine juz ?_
   refine juz ?_
   refine juy (y_add_u64 rfl rfl) ?_
   refine juy (y_rem rfl rfl (by omega) (by omega)) ?_
   refine ju_as (u := .int .u64 ws) (congrArg (Value.int .u64) (by rw [hws]; congr 1; omega)) ?_
   refine juz ?_
   refine juy (y_indexAddr_arr rfl rfl (by omega) (by omega) (by simp only [Int.toNat_natCast, Int.reduceSub, Int.reduceAdd, Int.reduceToNat, Nat.reduceMul, Nat.reduceAdd, Nat.zero_add, Nat.mul_one, Nat.zero_mul, Nat.add_zero]; exact rfl)) ?_
   refine juz ?_
   refine juy (y_rem rfl rfl (by omega) (by omega)) ?_
   refine juy (y_add_u64 rfl rfl) ?_
   refine ju_as (u := .int .u64 k) (congrArg (Value.int .u64) (by omega)) ?_
   refine juy (y_mul_u64 rfl rfl) ?_
   refine ju_as (u := .int .u64 (m * k)) (congrArg (Value.int .u64) (Int.emod_eq_of_lt hf1.1 (by omega))) ?_
   refine juz ?_
   refine juz ?_
   refine ju_nil ?_
   refine jq_then ?_
   refine jsr ?_
   refine jz ?_
   refine jz ?_
   refine jz ?_
   refine jz ?_
   refine jnt ?_
   refine jc_seq ?_
   refine jsr ?_
   refine jz ?_
   refine jnt ?_
   refine jc_block ?_
   refine jc_loop (fun (r : Nat) => [(0, .string s), (2, .bool true), (4, .pointer (some ⟨b4, 0, none⟩)), (7, .pointer (some ⟨kb.1.1, 0, none⟩)), (9, .int .u64 m), (10, .int .u64 ws), (11, .int .u64 (m * k)), (12, .int .u64 (cntW (o3 % m) ws m r)), (13, .int .u64 (if r = 0 then 0 else k * ws)), (14, .int .i64 (r : Nat)), (16, .int .u64 (r : Nat))]) (fun (r : Nat) => fun w' => (r : Int) ≤ m ∧ Hp w [] [.cells b4 [.int .u64 o0, .int .u64 o1, .int .u64 o2, .int .u64 o3], kyL kb.2 (cutS s 50) 0, kyK kb.1.1 kb.1.2 kb.2 (cutS s 50) 0, kyC kb.1.2 0 0] w') (fun (r : Nat) => m.toNat - r) 0 ?_ ?_ ?_
   ·exact ⟨rfl, rfl, rfl, rfl, rfl, rfl, rfl, rfl, rfl, rfl, rfl, trivial⟩
   ·exact fun _ h => ⟨by omega, h⟩
   ·intro r
    refine jc_and (fun hr => ?_)
    have hcr := cntW_range (o3 % m) ws m r
    refine jc_seq ?_
    refine jsr ?_
    refine jz ?_
    refine jz ?_
    refine jy (y_lss rfl rfl) ?_
    refine jl_prop (fun h60 => ?_) (fun h60 => ?_)
    ·first
     | (exfalso; omega)
     | (
      have hr1 : (r : Int) < m := by omega
      have hfm := fam_made (K := (rootK (cutS s 50) 0)) hm1 hw1x hk1 hr1
      have hfr : fits .u64 (r : Int) := by simp only [fits]; omega
      refine jnt ?_
      refine jc_true rfl ?_
      refine jc_skip ?_
      refine jq_then ?_
      refine jc_seq ?_
      refine jc_block ?_
      refine jsr ?_
      refine jpc (goes_func rfl) (fun w1 hw1 => lchan_any w1) ?_
      refine jz ?_
      refine jpc (goes_func rfl) (fun w1 hw1 => kroot_own (p := kb.2) (bc := kb.1.2) (n := 0) (seed := (cutS s 50)) (h := 0) hw1 (by first | exact mem0 | exact mem1 | exact mem2 | exact mem3 | exact mem4 | exact mem5 | exact mem6 | exact mem7 | exact mem8 | exact mem9 | exact mem10 | exact mem11 | exact mem12) (by first | exact mem0 | exact mem1 | exact mem2 | exact mem3 | exact mem4 | exact mem5 | exact mem6 | exact mem7 | exact mem8 | exact mem9 | exact mem10 | exact mem11 | exact mem12) (by first | exact mem0 | exact mem1 | exact mem2 | exact mem3 | exact mem4 | exact mem5 | exact mem6 | exact mem7 | exact mem8 | exact mem9 | exact mem10 | exact mem11 | exact mem12)) ?_
      refine jl_fcall rfl (by decide) rfl (goes_func rfl) (fun w1 hw1 => lnew_ok strCh (rootK (cutS s 50) 0) w1 (by decide) hkz) (fun b67 => ?_)
      refine jz ?_
      refine jz ?_
      refine jz ?_
      refine jz ?_
      refine jz ?_
      refine jnt ?_
      refine jc_seq ?_
      refine jsr ?_
      refine jz ?_
      refine jy (y_eql_nil rfl rfl) ?_
      refine jl_as (u := .bool false) rfl ?_
      refine jz ?_
      refine jz ?_
      refine jy (y_neq rfl rfl) ?_
      refine jl_prop (fun h74 => ?_) (fun h74 => ?_)
      ·first
       | (exfalso; omega)
       | (
        refine jy (y_pick_false rfl rfl) ?_
        refine jnt ?_
        refine jc_true rfl ?_
        refine jsr ?_
        refine jz ?_
        refine jnt ?_
        refine jc_ret ?_
        refine jq_then_ret ?_
        refine jq_block_ret ?_
        refine jq_then_ret ?_
        refine jq_then_ret ?_
        refine jq_block_ret ?_
        refine jq_then_ret ?_
        refine jq_ret1 rfl rfl ?_
        exact fun _ hw => ⟨rfl, hw.ch⟩
        )
      ·first
       | (exfalso; omega)
       | (
        refine jy (y_pick_false rfl rfl) ?_
        refine jnt ?_
        refine jc_false rfl ?_
        refine jc_skip ?_
        refine jq_then ?_
        refine jc_seq ?_
        refine jc_world (fun _ h => (h.nilrow 33 9).cast (H' := [Bk.r [] none 0, Bk.h (⟨strCh, (rootK (cutS s 50) 0), 1, []⟩ : Bk) b67 none 0, .cells b4 [.int .u64 o0, .int .u64 o1, .int .u64 o2, .int .u64 o3], kyL kb.2 (cutS s 50) 0, kyK kb.1.1 kb.1.2 kb.2 (cutS s 50) 0, kyC kb.1.2 0 0]) rfl) ?_
        refine jc_region ?_
        refine jz ?_
        refine jz ?_
        refine jz ?_
        refine jz ?_
        refine jz ?_
        refine jl_bcall (B := (⟨strCh, (rootK (cutS s 50) 0), 1, []⟩ : Bk)) (B' := (famB (rootK (cutS s 50) 0) m k ws r)) (b := b67) (ad := none) (c := 0) (v := .tuple #[.agg (Of.c (famO m k ws r)).toArray, .int .i64 0]) rfl (by decide) rfl (goes_func rfl) (fun w1 hw1 => cb (bk_make hw1 (show BkIn _ (⟨strCh, (rootK (cutS s 50) 0), 1, []⟩ : Bk) b67 none 0 from ⟨(by first | exact mem0 | exact mem1 | exact mem2 | exact mem3 | exact mem4 | exact mem5 | exact mem6 | exact mem7 | exact mem8 | exact mem9 | exact mem10 | exact mem11 | exact mem12), (by first | exact mem0 | exact mem1 | exact mem2 | exact mem3 | exact mem4 | exact mem5 | exact mem6 | exact mem7 | exact mem8 | exact mem9 | exact mem10 | exact mem11 | exact mem12), (by decide : 0 ≤ 1000)⟩) (nil_fit ⟨by decide, by decide⟩) (m * k) ws m strSalt r hff hfw hfmm hfr (by decide)) (by rw [hfm.1, hfm.2.1]) hfm.2.2) (fun _ => (by first | exact rep0 | exact rep1 | exact rep2 | exact rep3 | exact rep4 | exact rep5 | exact rep6 | exact rep7 | exact rep8 | exact rep9 | exact rep10 | exact rep11 | exact rep12)) (fun _ => (by first | exact rep0 | exact rep1 | exact rep2 | exact rep3 | exact rep4 | exact rep5 | exact rep6 | exact rep7 | exact rep8 | exact rep9 | exact rep10 | exact rep11 | exact rep12)) (fun pm => ?_)
        refine jz ?_
        refine jz ?_
        refine jz ?_
        refine jl_m rfl (by decide) rfl (m_alloc) (fun b19 => ?_)
        refine jst ?_
        refine jz ?_
        refine jnt ?_
        refine jc_seq ?_
        refine jsr ?_
        refine jz ?_
        refine jy (y_neq rfl rfl) ?_
        refine jl_prop (fun h86 => ?_) (fun h86 => ?_)
        ·exact absurd rfl (by assumption)
        ·first
         | (exfalso; omega)
         | (
          refine jz ?_
          refine jz ?_
          refine jz ?_
          refine jz ?_
          refine jy (y_neq rfl rfl) ?_
          refine jl_as (u := .bool false) (congrArg Value.bool (by simp [famO])) ?_
          refine jy (y_pick_false rfl rfl) ?_
          refine jnt ?_
          refine jc_false rfl ?_
          refine jc_skip ?_
          refine jq_then ?_
          refine jsr ?_
          refine jz ?_
          refine jy (y_indexAddr_arr rfl rfl (by omega) (by omega) (by simp only [Int.toNat_natCast, Int.reduceSub, Int.reduceAdd, Int.reduceToNat, Nat.reduceMul, Nat.reduceAdd, Nat.zero_add, Nat.mul_one, Nat.zero_mul, Nat.add_zero]; exact rfl)) ?_
          refine jz ?_
          refine jpc (goes_func rfl) (fun w1 hw1 => lticket_any (famO m k ws r) o3 w1) ?_
          refine jl_m rfl (by decide) rfl (m_alloc) (fun b21 => ?_)
          refine jst ?_
          refine jnt ?_
          refine jc_seq ?_
          refine jsr ?_
          refine jz ?_
          refine jnt ?_
          refine jc_true rfl ?_
          refine jsr ?_
          refine jz ?_
          refine jz ?_
          refine jy (y_len_str rfl) ?_
          refine jy (y_min rfl rfl) ?_
          refine jy (y_substr_hi rfl rfl (by omega) (by omega)) ?_
          refine jl_as (congrArg Value.string (cut_eq _ 50)) ?_
          refine jl_gcallL rfl (by decide) rfl (goes_func rfl) (fun w1 hw1 => mnew_own (cutS s 50) 0 w1 (by omega) (by decide)) (fun kc => ?_)
          refine jz ?_
          refine jz ?_
          refine jz ?_
          refine jz ?_
          refine jz ?_
          refine jnt ?_
          refine jc_seq ?_
          refine jsr ?_
          refine jz ?_
          refine jy (y_eql_nil rfl rfl) ?_
          refine jl_as (u := .bool false) rfl ?_
          refine jnt ?_
          refine jc_false rfl ?_
          refine jc_skip ?_
          refine jq_then ?_
          refine jc_world (fun _ h => h.cast (H' := [.cells b21 (Tk.c (famT m k ws r o3 ⟨#[]⟩)), .cells b19 (Of.c (famO m k ws r)), Bk.r (famB (rootK (cutS s 50) 0) m k ws r).l pm.1 pm.2, Bk.h (famB (rootK (cutS s 50) 0) m k ws r) b67 pm.1 pm.2, .cells b4 [.int .u64 o0, .int .u64 o1, .int .u64 o2, .int .u64 o3], kyL kb.2 (cutS s 50) 0, kyK kb.1.1 kb.1.2 kb.2 (cutS s 50) 0, kyC kb.1.2 0 0, kyL kc.2 (cutS s 50) 0, kyK kc.1.1 kc.1.2 kc.2 (cutS s 50) 0, kyC kc.1.2 0 0]) rfl) ?_
          refine jc_region ?_
          refine jz ?_
          refine jz ?_
          refine jpc (goes_func rfl) (fun w1 hw1 => text_any (famT m k ws r o3 ⟨#[]⟩) w1 (famT_fit hm1 hw1x hf1 f3) (Nat.le_of_ble_eq_true rfl) (Nat.le_trans (commit_sz _ _) (by decide))) ?_
          refine jl_ucallH rfl (by decide) rfl (goes_func rfl) (A := kyC kc.1.2 0 ((0 : Nat) : Int)) (A' := kyC kc.1.2 0 ((0 + 1 : Nat) : Int)) (by rfl) (fun w1 hw1 => ksign_own (p := kc.2) (i := 0) hw1 (by first | exact mem0 | exact mem1 | exact mem2 | exact mem3 | exact mem4 | exact mem5 | exact mem6 | exact mem7 | exact mem8 | exact mem9 | exact mem10 | exact mem11 | exact mem12) (by first | exact mem0 | exact mem1 | exact mem2 | exact mem3 | exact mem4 | exact mem5 | exact mem6 | exact mem7 | exact mem8 | exact mem9 | exact mem10 | exact mem11 | exact mem12) (by first | exact mem0 | exact mem1 | exact mem2 | exact mem3 | exact mem4 | exact mem5 | exact mem6 | exact mem7 | exact mem8 | exact mem9 | exact mem10 | exact mem11 | exact mem12) (by decide) (by omega) (tkText (famT m k ws r o3 ⟨#[]⟩)) (by have := tkText_small (famT m k ws r o3 ⟨#[]⟩); omega) (by decide)) (by first | exact rep0 | exact rep1 | exact rep2 | exact rep3 | exact rep4 | exact rep5 | exact rep6 | exact rep7 | exact rep8 | exact rep9 | exact rep10 | exact rep11 | exact rep12) ?_
          refine jz ?_
          refine jz ?_
          refine jz ?_
          refine jz ?_
          refine jnt ?_
          refine jsr ?_
          refine jz ?_
          refine jz ?_
          refine jst ?_
          refine jnt ?_
          refine jsr ?_
          refine jz ?_
          refine jz ?_
          refine jl_bcall (B := (famB (rootK (cutS s 50) 0) m k ws r)) (B' := (takeB (famB (rootK (cutS s 50) 0) m k ws r) (famT m k ws r o3 (signK (cutS s 50) 0 0 (tkText (famT m k ws r o3 ⟨#[]⟩)))))) (b := b67) (ad := pm.1) (c := pm.2) (v := .tuple #[.int .u64 (k * ws), .agg (Wn.c ⟨(famT m k ws r o3 (signK (cutS s 50) 0 0 (tkText (famT m k ws r o3 ⟨#[]⟩)))), strSalt, r⟩).toArray, .bool (decide (((r : Int) + o3 % m) % m < ws)), .int .i64 0]) rfl (by decide) rfl (goes_func rfl) (fun w1 hw1 => cb (bk_take hw1 (show BkIn _ (famB (rootK (cutS s 50) 0) m k ws r) b67 pm.1 pm.2 from ⟨(by first | exact mem0 | exact mem1 | exact mem2 | exact mem3 | exact mem4 | exact mem5 | exact mem6 | exact mem7 | exact mem8 | exact mem9 | exact mem10 | exact mem11 | exact mem12), (by first | exact mem0 | exact mem1 | exact mem2 | exact mem3 | exact mem4 | exact mem5 | exact mem6 | exact mem7 | exact mem8 | exact mem9 | exact mem10 | exact mem11 | exact mem12), (by decide : 1 ≤ 1000)⟩) (famB_fit hm1 hw1x hf1 hr1) (famT m k ws r o3 (signK (cutS s 50) 0 0 (tkText (famT m k ws r o3 ⟨#[]⟩)))) (famT_fit hm1 hw1x hf1 f3) (Nat.le_of_ble_eq_true rfl) (Nat.le_trans (commit_sz _ _) (by decide)) (Nat.le_trans (fam_sig_size _ _ _ _ _ _) (by decide))) (fam_win hm1 hw1x hk1 hr1 _ rfl) rfl) (fun _ => (by first | exact rep0 | exact rep1 | exact rep2 | exact rep3 | exact rep4 | exact rep5 | exact rep6 | exact rep7 | exact rep8 | exact rep9 | exact rep10 | exact rep11 | exact rep12)) (fun _ => (by first | exact rep0 | exact rep1 | exact rep2 | exact rep3 | exact rep4 | exact rep5 | exact rep6 | exact rep7 | exact rep8 | exact rep9 | exact rep10 | exact rep11 | exact rep12)) (fun pt => ?_)
          refine jz ?_
          refine jz ?_
          refine jz ?_
          refine jz ?_
          refine jl_prop (fun h124 => ?_) (fun h124 => ?_)
          ·skip
           refine jz ?_
           refine jl_m rfl (by decide) rfl (m_alloc) (fun b25 => ?_)
           refine jz ?_
           refine jst ?_
           refine jz ?_
           refine jz ?_
           refine jnt ?_
           refine jc_seq ?_
           refine jsr ?_
           refine jz ?_
           refine jy (y_eql rfl rfl) ?_
           refine jl_prop (fun h127 => ?_) (fun h127 => ?_)
           ·first
            | (exfalso; omega)
            | (
             refine jnt ?_
             refine jc_true rfl ?_
             refine jsr ?_
             refine jz ?_
             refine jy (y_add_fits rfl rfl (by simp only [fits]; omega)) ?_
             refine jz ?_
             refine jnt ?_
             refine jc_region ?_
             refine jz ?_
             refine jz ?_
             refine jnt ?_
             refine jc_seq ?_
             refine jsr ?_
             refine jz ?_
             refine jnt ?_
             refine jc_true rfl ?_
             refine jc_region ?_
             refine jz ?_
             refine jy (y_add_u64 rfl rfl) ?_
             refine jz ?_
             refine jnt ?_
             refine jsr ?_
             refine jz ?_
             refine jy (y_eql rfl rfl) ?_
             refine jl_prop (fun h135 => ?_) (fun h135 => ?_)
             ·first
              | (exfalso; omega)
              | (
               refine jz ?_
               refine jy (y_neq_bool rfl rfl) ?_
               refine jl_as (u := .bool false) rfl ?_
               refine jz ?_
               refine jz ?_
               refine jy (y_eql rfl rfl) ?_
               refine jl_prop (fun h140 => ?_) (fun h140 => ?_)
               ·first
                | (exfalso; omega)
                | (
                 refine jz ?_
                 refine jz ?_
                 refine jz ?_
                 refine jy (y_neq rfl rfl) ?_
                 refine jl_prop (fun h144 => ?_) (fun h144 => ?_)
                 ·first
                  | (exfalso; omega)
                  | (
                   refine jy (y_pick_true rfl rfl) ?_
                   refine jy (y_pick_false rfl rfl) ?_
                   refine jnt ?_
                   refine jc_true rfl ?_
                   refine jsr ?_
                   refine jz ?_
                   refine jnt ?_
                   refine jc_ret ?_
                   refine jq_block_ret ?_
                   refine jq_then_ret ?_
                   refine jq_then_ret ?_
                   refine jq_block_ret ?_
                   refine jq_then_ret ?_
                   refine jq_ret1 rfl rfl ?_
                   exact fun _ hw => ⟨rfl, hw.ch⟩
                   )
                 ·first
                  | (exfalso; omega)
                  | (
                   refine jy (y_pick_true rfl rfl) ?_
                   refine jy (y_pick_false rfl rfl) ?_
                   refine jnt ?_
                   refine jc_false rfl ?_
                   refine jc_skip ?_
                   refine jq_block ?_
                   refine jq_then ?_
                   refine jc_region ?_
                   refine jz ?_
                   refine jy (y_add_u64 rfl rfl) ?_
                   refine jz ?_
                   refine jl_nil ?_
                   refine jq_round (i := r) (r + 1) ?_ ?_ ?_
                   ·omega
                   ·exact ⟨rfl, rfl, rfl, rfl, rfl, rfl, rfl, lk_int rfl (by simp only [cntW]; first | (rw [if_pos (by assumption)]; omega) | (rw [if_neg (by assumption)]; omega)), lk_int rfl (by rw [if_neg (by omega)]), lk_int rfl (by omega), lk_int rfl (by omega), trivial⟩
                   ·exact fun _ h => ⟨by omega, (h.pop.pop.pop.pop.pop).part (.cons del0 (.cons del0 (.cons del0 (.cons del0 .nil))))⟩
                   )
                 )
               ·first
                | (exfalso; omega)
                | (
                 refine jz ?_
                 refine jsk ?_
                 refine jsk ?_
                 refine jsk ?_
                 refine jy (y_pick_false rfl rfl) ?_
                 refine jy (y_pick_false rfl rfl) ?_
                 refine jnt ?_
                 refine jc_false rfl ?_
                 refine jc_skip ?_
                 refine jq_block ?_
                 refine jq_then ?_
                 refine jc_region ?_
                 refine jz ?_
                 refine jy (y_add_u64 rfl rfl) ?_
                 refine jz ?_
                 refine jl_nil ?_
                 refine jq_round (i := r) (r + 1) ?_ ?_ ?_
                 ·omega
                 ·exact ⟨rfl, rfl, rfl, rfl, rfl, rfl, rfl, lk_int rfl (by simp only [cntW]; first | (rw [if_pos (by assumption)]; omega) | (rw [if_neg (by assumption)]; omega)), lk_int rfl (by rw [if_neg (by omega)]), lk_int rfl (by omega), lk_int rfl (by omega), trivial⟩
                 ·exact fun _ h => ⟨by omega, (h.pop.pop.pop.pop.pop).part (.cons del0 (.cons del0 (.cons del0 (.cons del0 .nil))))⟩
                 )
               )
             ·first
              | (exfalso; omega)
              | (
               refine jz ?_
               refine jy (y_neq_bool rfl rfl) ?_
               refine jl_as (u := .bool true) rfl ?_
               refine jz ?_
               refine jsk ?_
               refine jsk ?_
               refine jsk ?_
               refine jsk ?_
               refine jsk ?_
               refine jsk ?_
               refine jsk ?_
               refine jy (y_pick_true rfl rfl) ?_
               refine jnt ?_
               refine jc_true rfl ?_
               refine jsr ?_
               refine jz ?_
               refine jnt ?_
               refine jc_ret ?_
               refine jq_block_ret ?_
               refine jq_then_ret ?_
               refine jq_then_ret ?_
               refine jq_block_ret ?_
               refine jq_then_ret ?_
               refine jq_ret1 rfl rfl ?_
               exact fun _ hw => ⟨rfl, hw.ch⟩
               )
             )
           ·first
            | (exfalso; omega)
            | (
             refine jnt ?_
             refine jc_false rfl ?_
             refine jc_skip ?_
             refine jq_then ?_
             refine jc_seq ?_
             refine jsr ?_
             refine jz ?_
             refine jnt ?_
             refine jc_true rfl ?_
             refine jc_region ?_
             refine jz ?_
             refine jy (y_add_u64 rfl rfl) ?_
             refine jz ?_
             refine jnt ?_
             refine jsr ?_
             refine jz ?_
             refine jy (y_eql rfl rfl) ?_
             refine jl_prop (fun h135 => ?_) (fun h135 => ?_)
             ·first
              | (exfalso; omega)
              | (
               refine jz ?_
               refine jy (y_neq_bool rfl rfl) ?_
               refine jl_as (u := .bool false) rfl ?_
               refine jz ?_
               refine jz ?_
               refine jy (y_eql rfl rfl) ?_
               refine jl_prop (fun h140 => ?_) (fun h140 => ?_)
               ·first
                | (exfalso; omega)
                | (
                 refine jz ?_
                 refine jz ?_
                 refine jz ?_
                 refine jy (y_neq rfl rfl) ?_
                 refine jl_prop (fun h144 => ?_) (fun h144 => ?_)
                 ·first
                  | (exfalso; omega)
                  | (
                   refine jy (y_pick_true rfl rfl) ?_
                   refine jy (y_pick_false rfl rfl) ?_
                   refine jnt ?_
                   refine jc_true rfl ?_
                   refine jsr ?_
                   refine jz ?_
                   refine jnt ?_
                   refine jc_ret ?_
                   refine jq_block_ret ?_
                   refine jq_then_ret ?_
                   refine jq_then_ret ?_
                   refine jq_block_ret ?_
                   refine jq_then_ret ?_
                   refine jq_ret1 rfl rfl ?_
                   exact fun _ hw => ⟨rfl, hw.ch⟩
                   )
                 ·first
                  | (exfalso; omega)
                  | (
                   refine jy (y_pick_true rfl rfl) ?_
                   refine jy (y_pick_false rfl rfl) ?_
                   refine jnt ?_
                   refine jc_false rfl ?_
                   refine jc_skip ?_
                   refine jq_block ?_
                   refine jq_then ?_
                   refine jc_region ?_
                   refine jz ?_
                   refine jy (y_add_u64 rfl rfl) ?_
                   refine jz ?_
                   refine jl_nil ?_
                   refine jq_round (i := r) (r + 1) ?_ ?_ ?_
                   ·omega
                   ·exact ⟨rfl, rfl, rfl, rfl, rfl, rfl, rfl, lk_int rfl (by simp only [cntW]; first | (rw [if_pos (by assumption)]; omega) | (rw [if_neg (by assumption)]; omega)), lk_int rfl (by rw [if_neg (by omega)]), lk_int rfl (by omega), lk_int rfl (by omega), trivial⟩
                   ·exact fun _ h => ⟨by omega, (h.pop.pop.pop.pop.pop).part (.cons del0 (.cons del0 (.cons del0 (.cons del0 .nil))))⟩
                   )
                 )
               ·first
                | (exfalso; omega)
                | (
                 refine jz ?_
                 refine jsk ?_
                 refine jsk ?_
                 refine jsk ?_
                 refine jy (y_pick_false rfl rfl) ?_
                 refine jy (y_pick_false rfl rfl) ?_
                 refine jnt ?_
                 refine jc_false rfl ?_
                 refine jc_skip ?_
                 refine jq_block ?_
                 refine jq_then ?_
                 refine jc_region ?_
                 refine jz ?_
                 refine jy (y_add_u64 rfl rfl) ?_
                 refine jz ?_
                 refine jl_nil ?_
                 refine jq_round (i := r) (r + 1) ?_ ?_ ?_
                 ·omega
                 ·exact ⟨rfl, rfl, rfl, rfl, rfl, rfl, rfl, lk_int rfl (by simp only [cntW]; first | (rw [if_pos (by assumption)]; omega) | (rw [if_neg (by assumption)]; omega)), lk_int rfl (by rw [if_neg (by omega)]), lk_int rfl (by omega), lk_int rfl (by omega), trivial⟩
                 ·exact fun _ h => ⟨by omega, (h.pop.pop.pop.pop.pop).part (.cons del0 (.cons del0 (.cons del0 (.cons del0 .nil))))⟩
                 )
               )
             ·first
              | (exfalso; omega)
              | (
               refine jz ?_
               refine jy (y_neq_bool rfl rfl) ?_
               refine jl_as (u := .bool true) rfl ?_
               refine jz ?_
               refine jsk ?_
               refine jsk ?_
               refine jsk ?_
               refine jsk ?_
               refine jsk ?_
               refine jsk ?_
               refine jsk ?_
               refine jy (y_pick_true rfl rfl) ?_
               refine jnt ?_
               refine jc_true rfl ?_
               refine jsr ?_
               refine jz ?_
               refine jnt ?_
               refine jc_ret ?_
               refine jq_block_ret ?_
               refine jq_then_ret ?_
               refine jq_then_ret ?_
               refine jq_block_ret ?_
               refine jq_then_ret ?_
               refine jq_ret1 rfl rfl ?_
               exact fun _ hw => ⟨rfl, hw.ch⟩
               )
             )
          ·skip
           refine jz ?_
           refine jl_m rfl (by decide) rfl (m_alloc) (fun b25 => ?_)
           refine jz ?_
           refine jst ?_
           refine jz ?_
           refine jz ?_
           refine jnt ?_
           refine jc_seq ?_
           refine jsr ?_
           refine jz ?_
           refine jy (y_eql rfl rfl) ?_
           refine jl_prop (fun h127 => ?_) (fun h127 => ?_)
           ·first
            | (exfalso; omega)
            | (
             refine jnt ?_
             refine jc_true rfl ?_
             refine jsr ?_
             refine jz ?_
             refine jy (y_add_fits rfl rfl (by simp only [fits]; omega)) ?_
             refine jz ?_
             refine jnt ?_
             refine jc_region ?_
             refine jz ?_
             refine jz ?_
             refine jnt ?_
             refine jc_seq ?_
             refine jsr ?_
             refine jz ?_
             refine jnt ?_
             refine jc_false rfl ?_
             refine jc_skip ?_
             refine jq_then ?_
             refine jsr ?_
             refine jz ?_
             refine jy (y_eql rfl rfl) ?_
             refine jl_prop (fun h135 => ?_) (fun h135 => ?_)
             ·first
              | (exfalso; omega)
              | (
               refine jz ?_
               refine jy (y_neq_bool rfl rfl) ?_
               refine jl_as (u := .bool false) rfl ?_
               refine jz ?_
               refine jz ?_
               refine jy (y_eql rfl rfl) ?_
               refine jl_prop (fun h140 => ?_) (fun h140 => ?_)
               ·first
                | (exfalso; omega)
                | (
                 refine jz ?_
                 refine jz ?_
                 refine jz ?_
                 refine jy (y_neq rfl rfl) ?_
                 refine jl_prop (fun h144 => ?_) (fun h144 => ?_)
                 ·first
                  | (exfalso; omega)
                  | (
                   refine jy (y_pick_true rfl rfl) ?_
                   refine jy (y_pick_false rfl rfl) ?_
                   refine jnt ?_
                   refine jc_true rfl ?_
                   refine jsr ?_
                   refine jz ?_
                   refine jnt ?_
                   refine jc_ret ?_
                   refine jq_block_ret ?_
                   refine jq_then_ret ?_
                   refine jq_then_ret ?_
                   refine jq_block_ret ?_
                   refine jq_then_ret ?_
                   refine jq_ret1 rfl rfl ?_
                   exact fun _ hw => ⟨rfl, hw.ch⟩
                   )
                 ·first
                  | (exfalso; omega)
                  | (
                   refine jy (y_pick_true rfl rfl) ?_
                   refine jy (y_pick_false rfl rfl) ?_
                   refine jnt ?_
                   refine jc_false rfl ?_
                   refine jc_skip ?_
                   refine jq_block ?_
                   refine jq_then ?_
                   refine jc_region ?_
                   refine jz ?_
                   refine jy (y_add_u64 rfl rfl) ?_
                   refine jz ?_
                   refine jl_nil ?_
                   refine jq_round (i := r) (r + 1) ?_ ?_ ?_
                   ·omega
                   ·exact ⟨rfl, rfl, rfl, rfl, rfl, rfl, rfl, lk_int rfl (by simp only [cntW]; first | (rw [if_pos (by assumption)]; omega) | (rw [if_neg (by assumption)]; omega)), lk_int rfl (by rw [if_neg (by omega)]), lk_int rfl (by omega), lk_int rfl (by omega), trivial⟩
                   ·exact fun _ h => ⟨by omega, (h.pop.pop.pop.pop.pop).part (.cons del0 (.cons del0 (.cons del0 (.cons del0 .nil))))⟩
                   )
                 )
               ·first
                | (exfalso; omega)
                | (
                 refine jz ?_
                 refine jsk ?_
                 refine jsk ?_
                 refine jsk ?_
                 refine jy (y_pick_false rfl rfl) ?_
                 refine jy (y_pick_false rfl rfl) ?_
                 refine jnt ?_
                 refine jc_false rfl ?_
                 refine jc_skip ?_
                 refine jq_block ?_
                 refine jq_then ?_
                 refine jc_region ?_
                 refine jz ?_
                 refine jy (y_add_u64 rfl rfl) ?_
                 refine jz ?_
                 refine jl_nil ?_
                 refine jq_round (i := r) (r + 1) ?_ ?_ ?_
                 ·omega
                 ·exact ⟨rfl, rfl, rfl, rfl, rfl, rfl, rfl, lk_int rfl (by simp only [cntW]; first | (rw [if_pos (by assumption)]; omega) | (rw [if_neg (by assumption)]; omega)), lk_int rfl (by rw [if_neg (by omega)]), lk_int rfl (by omega), lk_int rfl (by omega), trivial⟩
                 ·exact fun _ h => ⟨by omega, (h.pop.pop.pop.pop.pop).part (.cons del0 (.cons del0 (.cons del0 (.cons del0 .nil))))⟩
                 )
               )
             ·first
              | (exfalso; omega)
              | (
               refine jz ?_
               refine jy (y_neq_bool rfl rfl) ?_
               refine jl_as (u := .bool true) rfl ?_
               refine jz ?_
               refine jsk ?_
               refine jsk ?_
               refine jsk ?_
               refine jsk ?_
               refine jsk ?_
               refine jsk ?_
               refine jsk ?_
               refine jy (y_pick_true rfl rfl) ?_
               refine jnt ?_
               refine jc_true rfl ?_
               refine jsr ?_
               refine jz ?_
               refine jnt ?_
               refine jc_ret ?_
               refine jq_block_ret ?_
               refine jq_then_ret ?_
               refine jq_then_ret ?_
               refine jq_block_ret ?_
               refine jq_then_ret ?_
               refine jq_ret1 rfl rfl ?_
               exact fun _ hw => ⟨rfl, hw.ch⟩
               )
             )
           ·first
            | (exfalso; omega)
            | (
             refine jnt ?_
             refine jc_false rfl ?_
             refine jc_skip ?_
             refine jq_then ?_
             refine jc_seq ?_
             refine jsr ?_
             refine jz ?_
             refine jnt ?_
             refine jc_false rfl ?_
             refine jc_skip ?_
             refine jq_then ?_
             refine jsr ?_
             refine jz ?_
             refine jy (y_eql rfl rfl) ?_
             refine jl_prop (fun h135 => ?_) (fun h135 => ?_)
             ·first
              | (exfalso; omega)
              | (
               refine jz ?_
               refine jy (y_neq_bool rfl rfl) ?_
               refine jl_as (u := .bool false) rfl ?_
               refine jz ?_
               refine jz ?_
               refine jy (y_eql rfl rfl) ?_
               refine jl_prop (fun h140 => ?_) (fun h140 => ?_)
               ·first
                | (exfalso; omega)
                | (
                 refine jz ?_
                 refine jz ?_
                 refine jz ?_
                 refine jy (y_neq rfl rfl) ?_
                 refine jl_prop (fun h144 => ?_) (fun h144 => ?_)
                 ·first
                  | (exfalso; omega)
                  | (
                   refine jy (y_pick_true rfl rfl) ?_
                   refine jy (y_pick_false rfl rfl) ?_
                   refine jnt ?_
                   refine jc_true rfl ?_
                   refine jsr ?_
                   refine jz ?_
                   refine jnt ?_
                   refine jc_ret ?_
                   refine jq_block_ret ?_
                   refine jq_then_ret ?_
                   refine jq_then_ret ?_
                   refine jq_block_ret ?_
                   refine jq_then_ret ?_
                   refine jq_ret1 rfl rfl ?_
                   exact fun _ hw => ⟨rfl, hw.ch⟩
                   )
                 ·first
                  | (exfalso; omega)
                  | (
                   refine jy (y_pick_true rfl rfl) ?_
                   refine jy (y_pick_false rfl rfl) ?_
                   refine jnt ?_
                   refine jc_false rfl ?_
                   refine jc_skip ?_
                   refine jq_block ?_
                   refine jq_then ?_
                   refine jc_region ?_
                   refine jz ?_
                   refine jy (y_add_u64 rfl rfl) ?_
                   refine jz ?_
                   refine jl_nil ?_
                   refine jq_round (i := r) (r + 1) ?_ ?_ ?_
                   ·omega
                   ·exact ⟨rfl, rfl, rfl, rfl, rfl, rfl, rfl, lk_int rfl (by simp only [cntW]; first | (rw [if_pos (by assumption)]; omega) | (rw [if_neg (by assumption)]; omega)), lk_int rfl (by rw [if_neg (by omega)]), lk_int rfl (by omega), lk_int rfl (by omega), trivial⟩
                   ·exact fun _ h => ⟨by omega, (h.pop.pop.pop.pop.pop).part (.cons del0 (.cons del0 (.cons del0 (.cons del0 .nil))))⟩
                   )
                 )
               ·first
                | (exfalso; omega)
                | (
                 refine jz ?_
                 refine jsk ?_
                 refine jsk ?_
                 refine jsk ?_
                 refine jy (y_pick_false rfl rfl) ?_
                 refine jy (y_pick_false rfl rfl) ?_
                 refine jnt ?_
                 refine jc_false rfl ?_
                 refine jc_skip ?_
                 refine jq_block ?_
                 refine jq_then ?_
                 refine jc_region ?_
                 refine jz ?_
                 refine jy (y_add_u64 rfl rfl) ?_
                 refine jz ?_
                 refine jl_nil ?_
                 refine jq_round (i := r) (r + 1) ?_ ?_ ?_
                 ·omega
                 ·exact ⟨rfl, rfl, rfl, rfl, rfl, rfl, rfl, lk_int rfl (by simp only [cntW]; first | (rw [if_pos (by assumption)]; omega) | (rw [if_neg (by assumption)]; omega)), lk_int rfl (by rw [if_neg (by omega)]), lk_int rfl (by omega), lk_int rfl (by omega), trivial⟩
                 ·exact fun _ h => ⟨by omega, (h.pop.pop.pop.pop.pop).part (.cons del0 (.cons del0 (.cons del0 (.cons del0 .nil))))⟩
                 )
               )
             ·first
              | (exfalso; omega)
              | (
               refine jz ?_
               refine jy (y_neq_bool rfl rfl) ?_
               refine jl_as (u := .bool true) rfl ?_
               refine jz ?_
               refine jsk ?_
               refine jsk ?_
               refine jsk ?_
               refine jsk ?_
               refine jsk ?_
               refine jsk ?_
               refine jsk ?_
               refine jy (y_pick_true rfl rfl) ?_
               refine jnt ?_
               refine jc_true rfl ?_
               refine jsr ?_
               refine jz ?_
               refine jnt ?_
               refine jc_ret ?_
               refine jq_block_ret ?_
               refine jq_then_ret ?_
               refine jq_then_ret ?_
               refine jq_block_ret ?_
               refine jq_then_ret ?_
               refine jq_ret1 rfl rfl ?_
               exact fun _ hw => ⟨rfl, hw.ch⟩
               )
             )
          )
        )
      )
    ·first
     | (exfalso; omega)
     | (
      refine jnt ?_
      refine jc_false rfl ?_
      refine jc_exit ?_
      refine jq_then_exit ?_
      refine jq_then_exit ?_
      refine jq_hit ?_
      refine jq_then ?_
      refine jc_seq ?_
      refine jc_seq ?_
      have hend := cntW_end (o3 % m) ws m hc1 hc2 (by omega) (by omega) r (by omega)
      have hrm : (r : Int) = m := by omega
      refine jc_region ?_
      refine jz ?_
      refine jz ?_
      refine jnt ?_
      refine jc_false rfl ?_
      refine jc_skip ?_
      refine jq_then ?_
      refine jsr ?_
      refine jz ?_
      refine jz ?_
      first | refine jy (y_conv_fits rfl (by simp only [fits]; omega)) ?_
      refine jy (y_eql rfl rfl) ?_
      refine jl_prop (fun h161 => ?_) (fun h161 => ?_)
      ·first
       | (exfalso; omega)
       | (
        refine jz ?_
        refine jz ?_
        refine jz ?_
        refine jy (y_eql rfl rfl) ?_
        refine jl_prop (fun h165 => ?_) (fun h165 => ?_)
        ·first
         | (exfalso; omega)
         | (
          refine jy (y_pick_true rfl rfl) ?_
          refine jz ?_
          refine jz ?_
          refine jz ?_
          refine jy (y_mul_u64 rfl rfl) ?_
          refine jl_as (u := .int .u64 (m * (k * ws))) (congrArg (Value.int .u64) (by rw [hend, show ws * (m * k) = m * (k * ws) by rw [Int.mul_comm ws, Int.mul_assoc]]; omega)) ?_
          refine jz ?_
          refine jz ?_
          refine jy (y_mul_u64 rfl rfl) ?_
          refine jl_as (u := .int .u64 (m * (k * ws))) (congrArg (Value.int .u64) (by rw [if_neg (by omega)]; omega)) ?_
          refine jy (y_eql rfl rfl) ?_
          refine jl_prop (fun h174 => ?_) (fun h174 => ?_)
          ·first
           | (exfalso; omega)
           | (
            refine jy (y_pick_true rfl rfl) ?_
            refine jz ?_
            refine jpc (goes_func rfl) (fun w1 hw1 => fixed16_any w1) ?_
            refine jy (y_pick_true rfl rfl) ?_
            refine jz ?_
            refine jnt ?_
            refine jc_ret ?_
            refine jq_ret1 rfl rfl ?_
            exact fun _ hw => ⟨rfl, hw.ch⟩
            )
          ·exact absurd rfl (by assumption)
          )
        ·first
         | (exfalso; omega)
         | (
          refine jy (y_pick_true rfl rfl) ?_
          refine jz ?_
          refine jsk ?_
          refine jsk ?_
          refine jsk ?_
          refine jsk ?_
          refine jsk ?_
          refine jsk ?_
          refine jsk ?_
          refine jy (y_pick_false rfl rfl) ?_
          refine jz ?_
          refine jsk ?_
          refine jy (y_pick_false rfl rfl) ?_
          refine jz ?_
          refine jnt ?_
          refine jc_ret ?_
          refine jq_ret1 rfl rfl ?_
          exact fun _ hw => ⟨rfl, hw.ch⟩
          )
        )
      ·first
       | (exfalso; omega)
       | (
        refine jz ?_
        refine jsk ?_
        refine jsk ?_
        refine jsk ?_
        refine jy (y_pick_false rfl rfl) ?_
        refine jz ?_
        refine jsk ?_
        refine jsk ?_
        refine jsk ?_
        refine jsk ?_
        refine jsk ?_
        refine jsk ?_
        refine jsk ?_
        refine jy (y_pick_false rfl rfl) ?_
        refine jz ?_
        refine jsk ?_
        refine jy (y_pick_false rfl rfl) ?_
        refine jz ?_
        refine jnt ?_
        refine jc_ret ?_
        refine jq_ret1 rfl rfl ?_
        exact fun _ hw => ⟨rfl, hw.ch⟩
        )
      )
   )

theorem lotteryFamily_f (s : ByteArray) (o0 o1 o2 o3 : Int) (w : World) (f0 : fits .u64 o0) (f1 : fits .u64 o1) (f2 : fits .u64 o2) (f3 : fits .u64 o3) :
  Calls Try.prog 3 #[.string s, .agg #[.int .u64 o0, .int .u64 o1, .int .u64 o2, .int .u64 o3], .bool false] w fun e w' => e = .returned (.bool true) ∧ Ch [] w w' := by
 obtain ⟨m, hm⟩ : ∃ m : Int, m = 1 + o0 % 12 := ⟨_, rfl⟩
 obtain ⟨ws, hws⟩ : ∃ x : Int, x = o1 % (m + 1) := ⟨_, rfl⟩
 obtain ⟨k, hk⟩ : ∃ x : Int, x = 1 + o2 % 1000 := ⟨_, rfl⟩
 have hg0 := f0
 have hg1 := f1
 have hg2 := f2
 simp only [fits] at hg0 hg1 hg2
 have hm1 : 1 ≤ m ∧ m ≤ 12 := by omega
 have hwa := Int.emod_nonneg o1 (show m + 1 ≠ 0 by omega)
 have hwb := Int.emod_lt_of_pos o1 (show 0 < m + 1 by omega)
 rw [← hws] at hwa hwb
 have hw1x : 0 ≤ ws ∧ ws ≤ m := by omega
 have hk1 : 1 ≤ k ∧ k ≤ 1000 := by omega
 have hf1 : 0 ≤ m * k ∧ m * k ≤ 12000 := ⟨Int.mul_nonneg (by omega) (by omega), (Int.mul_le_mul hm1.2 hk1.2 (by omega) (by decide) : m * k ≤ 12 * 1000)⟩
 have hkw : 0 ≤ k * ws ∧ k * ws ≤ 12000 := ⟨Int.mul_nonneg (by omega) (by omega), (Int.mul_le_mul hk1.2 (show ws ≤ 12 by omega) (by omega) (by decide) : k * ws ≤ 1000 * 12)⟩
 have hall : 0 ≤ m * (k * ws) ∧ m * (k * ws) ≤ 144000 := ⟨Int.mul_nonneg (by omega) hkw.1, (Int.mul_le_mul hm1.2 hkw.2 hkw.1 (by decide) : m * (k * ws) ≤ 12 * 12000)⟩
 have hff : fits .u64 (m * k) := by simp only [fits]; omega
 have hfw : fits .u64 ws := by simp only [fits]; omega
 have hfmm : fits .u64 m := by simp only [fits]; omega
 have hsd := cutS_size s 50
 have hc1 := Int.emod_nonneg o3 (show m ≠ 0 by omega)
 have hc2 := Int.emod_lt_of_pos o3 (show 0 < m by omega)
 have hkz := rootK_size (cutS s 50) (h := 0) (by decide)
 refine calls_of (n := 179) (E := [(0, .string s), (1, .agg #[.int .u64 o0, .int .u64 o1, .int .u64 o2, .int .u64 o3]), (2, .bool false)]) (W := Hp w [] []) Try.func3 rfl rfl (Nat.le_of_ble_eq_true rfl) rfl (Hp.nil _ _) ?_
 refine jsr ?_
 refine jl_m rfl (by decide) rfl (m_box rfl rfl) (fun b4 => ?_)
 refine jz ?_
 refine jnt ?_
 refine jsr ?_
 refine jz ?_
 refine jz ?_
 refine jy (y_len_str rfl) ?_
 refine jy (y_min rfl rfl) ?_
 refine jy (y_substr_hi rfl rfl (by omega) (by omega)) ?_
 refine jl_as (congrArg Value.string (cut_eq _ 50)) ?_
 refine jl_gcallL rfl (by decide) rfl (goes_func rfl) (fun w1 hw1 => mnew_own (cutS s 50) 0 w1 (by omega) (by decide)) (fun kb => ?_)
 refine jz ?_
 refine jz ?_
 refine jz ?_
 refine jz ?_
 refine jz ?_
 refine jnt ?_
 refine jc_seq ?_
 refine jsr ?_
 refine jz ?_
 refine jy (y_eql_nil rfl rfl) ?_
 refine jl_as (u := .bool false) rfl ?_
 refine jz ?_
 refine jz ?_
 refine jy (y_neq rfl rfl) ?_
 refine jl_prop (fun h41 => ?_) (fun h41 => ?_)
 ·first
  | (exfalso; omega)
  | (
   refine jy (y_pick_false rfl rfl) ?_
   refine jnt ?_
   refine jc_true rfl ?_
   refine jsr ?_
   refine jz ?_
   refine jnt ?_
   refine jc_ret ?_
   refine jq_then_ret ?_
   refine jq_ret1 rfl rfl ?_
   exact fun _ hw => ⟨rfl, hw.ch⟩
   )
 ·first
  | (exfalso; omega)
  | (
   refine jy (y_pick_false rfl rfl) ?_
   refine jnt ?_
   refine jc_false rfl ?_
   refine jc_skip ?_
   refine jq_then ?_
   refine jsr ?_
   refine jy (y_indexAddr_arr rfl rfl (by omega) (by omega) (by simp only [Int.toNat_natCast, Int.reduceSub, Int.reduceAdd, Int.reduceToNat, Nat.reduceMul, Nat.reduceAdd, Nat.zero_add, Nat.mul_one, Nat.zero_mul, Nat.add_zero]; exact rfl)) ?_
   refine jz ?_
   refine jy (y_rem rfl rfl (by omega) (by omega)) ?_
   refine jy (y_add_u64 rfl rfl) ?_
   refine jl_as (u := .int .u64 m) (congrArg (Value.int .u64) (by omega)) ?_
   refine jz ?_
   refine jnt ?_
   refine jc_seq ?_
   refine jc_world (fun _ h => h.cast (H' := [.cells b4 [.int .u64 o0, .int .u64 o1, .int .u64 o2, .int .u64 o3], kyL kb.2 (cutS s 50) 0, kyK kb.1.1 kb.1.2 kb.2 (cutS s 50) 0, kyC kb.1.2 0 0]) rfl) ?_
   refine jc_draw (by kernel_rfl) (fun _ h => h.drew) ?_
   refine juy (y_indexAddr_arr rfl rfl (by omega) (by omega) (by simp only [Int.toNat_natCast, Int.reduceSub, Int.reduceAdd, Int.reduceToNat, Nat.reduceMul, Nat.reduceAdd, Nat.zero_add, Nat.mul_one, Nat.zero_mul, Nat.add_zero]; exact rfl)) ?_
   refine juz ?_
   refine juz ?_
   refine juy (y_add_u64 rfl rfl) ?_
   refine juy (y_rem rfl rfl (by omega) (by omega)) ?_
   refine ju_as (u := .int .u64 ws) (congrArg (Value.int .u64) (by rw [hws]; congr 1; omega)) ?_
   refine juz ?_
   refine juy (y_indexAddr_arr rfl rfl (by omega) (by omega) (by simp only [Int.toNat_natCast, Int.reduceSub, Int.reduceAdd, Int.reduceToNat, Nat.reduceMul, Nat.reduceAdd, Nat.zero_add, Nat.mul_one, Nat.zero_mul, Nat.add_zero]; exact rfl)) ?_
   refine juz ?_
   refine juy (y_rem rfl rfl (by omega) (by omega)) ?_
   refine juy (y_add_u64 rfl rfl) ?_
   refine ju_as (u := .int .u64 k) (congrArg (Value.int .u64) (by omega)) ?_
   refine juy (y_mul_u64 rfl rfl) ?_
   refine ju_as (u := .int .u64 (m * k)) (congrArg (Value.int .u64) (Int.emod_eq_of_lt hf1.1 (by omega))) ?_
   refine juz ?_
   refine juz ?_
   refine ju_nil ?_
   refine jq_then ?_
   refine jsr ?_
   refine jz ?_
   refine jz ?_
   refine jz ?_
   refine jz ?_
   refine jnt ?_
   refine jc_seq ?_
   refine jsr ?_
   refine jz ?_
   refine jnt ?_
   refine jc_block ?_
   refine jc_loop (fun (r : Nat) => [(0, .string s), (2, .bool false), (4, .pointer (some ⟨b4, 0, none⟩)), (7, .pointer (some ⟨kb.1.1, 0, none⟩)), (9, .int .u64 m), (10, .int .u64 ws), (11, .int .u64 (m * k)), (12, .int .u64 0), (13, .int .u64 0), (14, .int .i64 0), (15, .string ⟨#[]⟩), (16, .int .u64 (r : Nat))]) (fun (r : Nat) => fun w' => (r : Int) ≤ m ∧ Hp w [] [.cells b4 [.int .u64 o0, .int .u64 o1, .int .u64 o2, .int .u64 o3], kyL kb.2 (cutS s 50) 0, kyK kb.1.1 kb.1.2 kb.2 (cutS s 50) 0, kyC kb.1.2 0 0] w') (fun (r : Nat) => m.toNat - r) 0 ?_ ?_ ?_
   ·exact ⟨rfl, rfl, rfl, rfl, rfl, rfl, rfl, rfl, rfl, rfl, rfl, rfl, trivial⟩
   ·exact fun _ h => ⟨by omega, h⟩
   ·intro r
    refine jc_and (fun hr => ?_)
    refine jc_seq ?_
    refine jsr ?_
    refine jz ?_
    refine jz ?_
    refine jy (y_lss rfl rfl) ?_
    refine jl_prop (fun h60 => ?_) (fun h60 => ?_)
    ·first
     | (exfalso; omega)
     | (
      have hr1 : (r : Int) < m := by omega
      have hfm := fam_made (K := (rootK (cutS s 50) 0)) hm1 hw1x hk1 hr1
      have hfr : fits .u64 (r : Int) := by simp only [fits]; omega
      refine jnt ?_
      refine jc_true rfl ?_
      refine jc_skip ?_
      refine jq_then ?_
      refine jc_seq ?_
      refine jc_block ?_
      refine jsr ?_
      refine jpc (goes_func rfl) (fun w1 hw1 => lchan_any w1) ?_
      refine jz ?_
      refine jpc (goes_func rfl) (fun w1 hw1 => kroot_own (p := kb.2) (bc := kb.1.2) (n := 0) (seed := (cutS s 50)) (h := 0) hw1 (by first | exact mem0 | exact mem1 | exact mem2 | exact mem3 | exact mem4 | exact mem5 | exact mem6 | exact mem7 | exact mem8 | exact mem9 | exact mem10 | exact mem11 | exact mem12) (by first | exact mem0 | exact mem1 | exact mem2 | exact mem3 | exact mem4 | exact mem5 | exact mem6 | exact mem7 | exact mem8 | exact mem9 | exact mem10 | exact mem11 | exact mem12) (by first | exact mem0 | exact mem1 | exact mem2 | exact mem3 | exact mem4 | exact mem5 | exact mem6 | exact mem7 | exact mem8 | exact mem9 | exact mem10 | exact mem11 | exact mem12)) ?_
      refine jl_fcall rfl (by decide) rfl (goes_func rfl) (fun w1 hw1 => lnew_ok strCh (rootK (cutS s 50) 0) w1 (by decide) hkz) (fun b67 => ?_)
      refine jz ?_
      refine jz ?_
      refine jz ?_
      refine jz ?_
      refine jz ?_
      refine jnt ?_
      refine jc_seq ?_
      refine jsr ?_
      refine jz ?_
      refine jy (y_eql_nil rfl rfl) ?_
      refine jl_as (u := .bool false) rfl ?_
      refine jz ?_
      refine jz ?_
      refine jy (y_neq rfl rfl) ?_
      refine jl_prop (fun h74 => ?_) (fun h74 => ?_)
      ·first
       | (exfalso; omega)
       | (
        refine jy (y_pick_false rfl rfl) ?_
        refine jnt ?_
        refine jc_true rfl ?_
        refine jsr ?_
        refine jz ?_
        refine jnt ?_
        refine jc_ret ?_
        refine jq_then_ret ?_
        refine jq_block_ret ?_
        refine jq_then_ret ?_
        refine jq_then_ret ?_
        refine jq_block_ret ?_
        refine jq_then_ret ?_
        refine jq_ret1 rfl rfl ?_
        exact fun _ hw => ⟨rfl, hw.ch⟩
        )
      ·first
       | (exfalso; omega)
       | (
        refine jy (y_pick_false rfl rfl) ?_
        refine jnt ?_
        refine jc_false rfl ?_
        refine jc_skip ?_
        refine jq_then ?_
        refine jc_seq ?_
        refine jc_world (fun _ h => (h.nilrow 33 9).cast (H' := [Bk.r [] none 0, Bk.h (⟨strCh, (rootK (cutS s 50) 0), 1, []⟩ : Bk) b67 none 0, .cells b4 [.int .u64 o0, .int .u64 o1, .int .u64 o2, .int .u64 o3], kyL kb.2 (cutS s 50) 0, kyK kb.1.1 kb.1.2 kb.2 (cutS s 50) 0, kyC kb.1.2 0 0]) rfl) ?_
        refine jc_region ?_
        refine jz ?_
        refine jz ?_
        refine jz ?_
        refine jz ?_
        refine jz ?_
        refine jl_bcall (B := (⟨strCh, (rootK (cutS s 50) 0), 1, []⟩ : Bk)) (B' := (famB (rootK (cutS s 50) 0) m k ws r)) (b := b67) (ad := none) (c := 0) (v := .tuple #[.agg (Of.c (famO m k ws r)).toArray, .int .i64 0]) rfl (by decide) rfl (goes_func rfl) (fun w1 hw1 => cb (bk_make hw1 (show BkIn _ (⟨strCh, (rootK (cutS s 50) 0), 1, []⟩ : Bk) b67 none 0 from ⟨(by first | exact mem0 | exact mem1 | exact mem2 | exact mem3 | exact mem4 | exact mem5 | exact mem6 | exact mem7 | exact mem8 | exact mem9 | exact mem10 | exact mem11 | exact mem12), (by first | exact mem0 | exact mem1 | exact mem2 | exact mem3 | exact mem4 | exact mem5 | exact mem6 | exact mem7 | exact mem8 | exact mem9 | exact mem10 | exact mem11 | exact mem12), (by decide : 0 ≤ 1000)⟩) (nil_fit ⟨by decide, by decide⟩) (m * k) ws m strSalt r hff hfw hfmm hfr (by decide)) (by rw [hfm.1, hfm.2.1]) hfm.2.2) (fun _ => (by first | exact rep0 | exact rep1 | exact rep2 | exact rep3 | exact rep4 | exact rep5 | exact rep6 | exact rep7 | exact rep8 | exact rep9 | exact rep10 | exact rep11 | exact rep12)) (fun _ => (by first | exact rep0 | exact rep1 | exact rep2 | exact rep3 | exact rep4 | exact rep5 | exact rep6 | exact rep7 | exact rep8 | exact rep9 | exact rep10 | exact rep11 | exact rep12)) (fun pm => ?_)
        refine jz ?_
        refine jz ?_
        refine jz ?_
        refine jl_m rfl (by decide) rfl (m_alloc) (fun b19 => ?_)
        refine jst ?_
        refine jz ?_
        refine jnt ?_
        refine jc_seq ?_
        refine jsr ?_
        refine jz ?_
        refine jy (y_neq rfl rfl) ?_
        refine jl_prop (fun h86 => ?_) (fun h86 => ?_)
        ·exact absurd rfl (by assumption)
        ·first
         | (exfalso; omega)
         | (
          refine jz ?_
          refine jz ?_
          refine jz ?_
          refine jz ?_
          refine jy (y_neq rfl rfl) ?_
          refine jl_as (u := .bool false) (congrArg Value.bool (by simp [famO])) ?_
          refine jy (y_pick_false rfl rfl) ?_
          refine jnt ?_
          refine jc_false rfl ?_
          refine jc_skip ?_
          refine jq_then ?_
          refine jsr ?_
          refine jz ?_
          refine jy (y_indexAddr_arr rfl rfl (by omega) (by omega) (by simp only [Int.toNat_natCast, Int.reduceSub, Int.reduceAdd, Int.reduceToNat, Nat.reduceMul, Nat.reduceAdd, Nat.zero_add, Nat.mul_one, Nat.zero_mul, Nat.add_zero]; exact rfl)) ?_
          refine jz ?_
          refine jpc (goes_func rfl) (fun w1 hw1 => lticket_any (famO m k ws r) o3 w1) ?_
          refine jl_m rfl (by decide) rfl (m_alloc) (fun b21 => ?_)
          refine jst ?_
          refine jnt ?_
          refine jc_seq ?_
          refine jsr ?_
          refine jz ?_
          refine jnt ?_
          refine jc_false rfl ?_
          refine jc_skip ?_
          refine jq_then ?_
          refine jsr ?_
          refine jz ?_
          refine jz ?_
          refine jst ?_
          refine jnt ?_
          refine jsr ?_
          refine jz ?_
          refine jz ?_
          refine jl_bcall (B := (famB (rootK (cutS s 50) 0) m k ws r)) (B' := (famB (rootK (cutS s 50) 0) m k ws r)) (b := b67) (ad := pm.1) (c := pm.2) (v := .tuple #[.int .u64 0, .agg (Wn.c wn0).toArray, .bool false, .int .i64 10]) rfl (by decide) rfl (goes_func rfl) (fun w1 hw1 => cb (bk_take hw1 (show BkIn _ (famB (rootK (cutS s 50) 0) m k ws r) b67 pm.1 pm.2 from ⟨(by first | exact mem0 | exact mem1 | exact mem2 | exact mem3 | exact mem4 | exact mem5 | exact mem6 | exact mem7 | exact mem8 | exact mem9 | exact mem10 | exact mem11 | exact mem12), (by first | exact mem0 | exact mem1 | exact mem2 | exact mem3 | exact mem4 | exact mem5 | exact mem6 | exact mem7 | exact mem8 | exact mem9 | exact mem10 | exact mem11 | exact mem12), (by decide : 1 ≤ 1000)⟩) (famB_fit hm1 hw1x hf1 hr1) (famT m k ws r o3 ⟨#[]⟩) (famT_fit hm1 hw1x hf1 f3) (Nat.le_of_ble_eq_true rfl) (Nat.le_trans (commit_sz _ _) (by decide)) (Nat.le_of_ble_eq_true rfl)) (take_no fam_bare (by decide)).1 (take_no fam_bare (by decide)).2) (fun _ => (by first | exact rep0 | exact rep1 | exact rep2 | exact rep3 | exact rep4 | exact rep5 | exact rep6 | exact rep7 | exact rep8 | exact rep9 | exact rep10 | exact rep11 | exact rep12)) (fun _ => (by first | exact rep0 | exact rep1 | exact rep2 | exact rep3 | exact rep4 | exact rep5 | exact rep6 | exact rep7 | exact rep8 | exact rep9 | exact rep10 | exact rep11 | exact rep12)) (fun pt => ?_)
          refine jz ?_
          refine jz ?_
          refine jz ?_
          refine jz ?_
          refine jl_as (u := .bool false) rfl ?_
          refine jz ?_
          refine jl_m rfl (by decide) rfl (m_alloc) (fun b25 => ?_)
          refine jz ?_
          refine jst ?_
          refine jz ?_
          refine jz ?_
          refine jnt ?_
          refine jc_seq ?_
          refine jsr ?_
          refine jz ?_
          refine jy (y_eql rfl rfl) ?_
          refine jl_prop (fun h127 => ?_) (fun h127 => ?_)
          ·first
           | (exfalso; omega)
           | (
            refine jnt ?_
            refine jc_true rfl ?_
            refine jsr ?_
            refine jz ?_
            refine jy (y_add_fits rfl rfl (by simp only [fits]; omega)) ?_
            refine jz ?_
            refine jnt ?_
            refine jc_region ?_
            refine jz ?_
            refine jz ?_
            refine jnt ?_
            refine jc_seq ?_
            refine jsr ?_
            refine jz ?_
            refine jnt ?_
            refine jc_false rfl ?_
            refine jc_skip ?_
            refine jq_then ?_
            refine jsr ?_
            refine jz ?_
            refine jy (y_eql rfl rfl) ?_
            refine jl_prop (fun h135 => ?_) (fun h135 => ?_)
            ·first
             | (exfalso; omega)
             | (
              refine jz ?_
              refine jy (y_neq_bool rfl rfl) ?_
              refine jl_as (u := .bool true) rfl ?_
              refine jz ?_
              refine jsk ?_
              refine jsk ?_
              refine jsk ?_
              refine jsk ?_
              refine jsk ?_
              refine jsk ?_
              refine jsk ?_
              refine jy (y_pick_true rfl rfl) ?_
              refine jnt ?_
              refine jc_true rfl ?_
              refine jsr ?_
              refine jz ?_
              refine jnt ?_
              refine jc_ret ?_
              refine jq_block_ret ?_
              refine jq_then_ret ?_
              refine jq_then_ret ?_
              refine jq_block_ret ?_
              refine jq_then_ret ?_
              refine jq_ret1 rfl rfl ?_
              exact fun _ hw => ⟨rfl, hw.ch⟩
              )
            ·first
             | (exfalso; omega)
             | (
              refine jz ?_
              refine jy (y_neq_bool rfl rfl) ?_
              refine jl_as (u := .bool false) rfl ?_
              refine jz ?_
              refine jz ?_
              refine jy (y_eql rfl rfl) ?_
              refine jl_prop (fun h140 => ?_) (fun h140 => ?_)
              ·first
               | (exfalso; omega)
               | (
                refine jz ?_
                refine jz ?_
                refine jz ?_
                refine jy (y_neq rfl rfl) ?_
                refine jl_prop (fun h144 => ?_) (fun h144 => ?_)
                ·first
                 | (exfalso; omega)
                 | (
                  refine jy (y_pick_true rfl rfl) ?_
                  refine jy (y_pick_false rfl rfl) ?_
                  refine jnt ?_
                  refine jc_true rfl ?_
                  refine jsr ?_
                  refine jz ?_
                  refine jnt ?_
                  refine jc_ret ?_
                  refine jq_block_ret ?_
                  refine jq_then_ret ?_
                  refine jq_then_ret ?_
                  refine jq_block_ret ?_
                  refine jq_then_ret ?_
                  refine jq_ret1 rfl rfl ?_
                  exact fun _ hw => ⟨rfl, hw.ch⟩
                  )
                ·first
                 | (exfalso; omega)
                 | (
                  refine jy (y_pick_true rfl rfl) ?_
                  refine jy (y_pick_false rfl rfl) ?_
                  refine jnt ?_
                  refine jc_false rfl ?_
                  refine jc_skip ?_
                  refine jq_block ?_
                  refine jq_then ?_
                  refine jc_region ?_
                  refine jz ?_
                  refine jy (y_add_u64 rfl rfl) ?_
                  refine jz ?_
                  refine jl_nil ?_
                  refine jq_round (i := r) (r + 1) ?_ ?_ ?_
                  ·omega
                  ·exact ⟨rfl, rfl, rfl, rfl, rfl, rfl, rfl, rfl, rfl, rfl, rfl, lk_int rfl (by omega), trivial⟩
                  ·exact fun _ h => ⟨by omega, (h.pop.pop.pop.pop.pop).part (.cons del0 (.cons del0 (.cons del0 (.cons del0 .nil))))⟩
                  )
                )
              ·first
               | (exfalso; omega)
               | (
                refine jz ?_
                refine jsk ?_
                refine jsk ?_
                refine jsk ?_
                refine jy (y_pick_false rfl rfl) ?_
                refine jy (y_pick_false rfl rfl) ?_
                refine jnt ?_
                refine jc_false rfl ?_
                refine jc_skip ?_
                refine jq_block ?_
                refine jq_then ?_
                refine jc_region ?_
                refine jz ?_
                refine jy (y_add_u64 rfl rfl) ?_
                refine jz ?_
                refine jl_nil ?_
                refine jq_round (i := r) (r + 1) ?_ ?_ ?_
                ·omega
                ·exact ⟨rfl, rfl, rfl, rfl, rfl, rfl, rfl, rfl, rfl, rfl, rfl, lk_int rfl (by omega), trivial⟩
                ·exact fun _ h => ⟨by omega, (h.pop.pop.pop.pop.pop).part (.cons del0 (.cons del0 (.cons del0 (.cons del0 .nil))))⟩
                )
              )
            )
          ·first
           | (exfalso; omega)
           | (
            refine jnt ?_
            refine jc_false rfl ?_
            refine jc_skip ?_
            refine jq_then ?_
            refine jc_seq ?_
            refine jsr ?_
            refine jz ?_
            refine jnt ?_
            refine jc_false rfl ?_
            refine jc_skip ?_
            refine jq_then ?_
            refine jsr ?_
            refine jz ?_
            refine jy (y_eql rfl rfl) ?_
            refine jl_prop (fun h135 => ?_) (fun h135 => ?_)
            ·first
             | (exfalso; omega)
             | (
              refine jz ?_
              refine jy (y_neq_bool rfl rfl) ?_
              refine jl_as (u := .bool true) rfl ?_
              refine jz ?_
              refine jsk ?_
              refine jsk ?_
              refine jsk ?_
              refine jsk ?_
              refine jsk ?_
              refine jsk ?_
              refine jsk ?_
              refine jy (y_pick_true rfl rfl) ?_
              refine jnt ?_
              refine jc_true rfl ?_
              refine jsr ?_
              refine jz ?_
              refine jnt ?_
              refine jc_ret ?_
              refine jq_block_ret ?_
              refine jq_then_ret ?_
              refine jq_then_ret ?_
              refine jq_block_ret ?_
              refine jq_then_ret ?_
              refine jq_ret1 rfl rfl ?_
              exact fun _ hw => ⟨rfl, hw.ch⟩
              )
            ·first
             | (exfalso; omega)
             | (
              refine jz ?_
              refine jy (y_neq_bool rfl rfl) ?_
              refine jl_as (u := .bool false) rfl ?_
              refine jz ?_
              refine jz ?_
              refine jy (y_eql rfl rfl) ?_
              refine jl_prop (fun h140 => ?_) (fun h140 => ?_)
              ·first
               | (exfalso; omega)
               | (
                refine jz ?_
                refine jz ?_
                refine jz ?_
                refine jy (y_neq rfl rfl) ?_
                refine jl_prop (fun h144 => ?_) (fun h144 => ?_)
                ·first
                 | (exfalso; omega)
                 | (
                  refine jy (y_pick_true rfl rfl) ?_
                  refine jy (y_pick_false rfl rfl) ?_
                  refine jnt ?_
                  refine jc_true rfl ?_
                  refine jsr ?_
                  refine jz ?_
                  refine jnt ?_
                  refine jc_ret ?_
                  refine jq_block_ret ?_
                  refine jq_then_ret ?_
                  refine jq_then_ret ?_
                  refine jq_block_ret ?_
                  refine jq_then_ret ?_
                  refine jq_ret1 rfl rfl ?_
                  exact fun _ hw => ⟨rfl, hw.ch⟩
                  )
                ·first
                 | (exfalso; omega)
                 | (
                  refine jy (y_pick_true rfl rfl) ?_
                  refine jy (y_pick_false rfl rfl) ?_
                  refine jnt ?_
                  refine jc_false rfl ?_
                  refine jc_skip ?_
                  refine jq_block ?_
                  refine jq_then ?_
                  refine jc_region ?_
                  refine jz ?_
                  refine jy (y_add_u64 rfl rfl) ?_
                  refine jz ?_
                  refine jl_nil ?_
                  refine jq_round (i := r) (r + 1) ?_ ?_ ?_
                  ·omega
                  ·exact ⟨rfl, rfl, rfl, rfl, rfl, rfl, rfl, rfl, rfl, rfl, rfl, lk_int rfl (by omega), trivial⟩
                  ·exact fun _ h => ⟨by omega, (h.pop.pop.pop.pop.pop).part (.cons del0 (.cons del0 (.cons del0 (.cons del0 .nil))))⟩
                  )
                )
              ·first
               | (exfalso; omega)
               | (
                refine jz ?_
                refine jsk ?_
                refine jsk ?_
                refine jsk ?_
                refine jy (y_pick_false rfl rfl) ?_
                refine jy (y_pick_false rfl rfl) ?_
                refine jnt ?_
                refine jc_false rfl ?_
                refine jc_skip ?_
                refine jq_block ?_
                refine jq_then ?_
                refine jc_region ?_
                refine jz ?_
                refine jy (y_add_u64 rfl rfl) ?_
                refine jz ?_
                refine jl_nil ?_
                refine jq_round (i := r) (r + 1) ?_ ?_ ?_
                ·omega
                ·exact ⟨rfl, rfl, rfl, rfl, rfl, rfl, rfl, rfl, rfl, rfl, rfl, lk_int rfl (by omega), trivial⟩
                ·exact fun _ h => ⟨by omega, (h.pop.pop.pop.pop.pop).part (.cons del0 (.cons del0 (.cons del0 (.cons del0 .nil))))⟩
                )
              )
            )
          )
        )
      )
    ·first
     | (exfalso; omega)
     | (
      refine jnt ?_
      refine jc_false rfl ?_
      refine jc_exit ?_
      refine jq_then_exit ?_
      refine jq_then_exit ?_
      refine jq_hit ?_
      refine jq_then ?_
      refine jc_seq ?_
      refine jsr ?_
      refine jz ?_
      refine jz ?_
      refine jnt ?_
      refine jc_true rfl ?_
      refine jsr ?_
      refine jz ?_
      refine jy (y_eql rfl rfl) ?_
      refine jl_prop (fun h150 => ?_) (fun h150 => ?_)
      ·first
       | (exfalso; omega)
       | (
        refine jz ?_
        refine jz ?_
        refine jy (y_eql rfl rfl) ?_
        refine jl_prop (fun h153 => ?_) (fun h153 => ?_)
        ·first
         | (exfalso; omega)
         | (
          refine jy (y_pick_true rfl rfl) ?_
          refine jz ?_
          refine jpc (goes_func rfl) (fun w1 hw1 => fixed16_any w1) ?_
          refine jy (y_pick_true rfl rfl) ?_
          refine jz ?_
          refine jnt ?_
          refine jc_ret ?_
          refine jq_then_ret ?_
          refine jq_ret1 rfl rfl ?_
          exact fun _ hw => ⟨rfl, hw.ch⟩
          )
        ·first
         | (exfalso; omega)
         | (
          refine jy (y_pick_true rfl rfl) ?_
          refine jz ?_
          refine jsk ?_
          refine jy (y_pick_false rfl rfl) ?_
          refine jz ?_
          refine jnt ?_
          refine jc_ret ?_
          refine jq_then_ret ?_
          refine jq_ret1 rfl rfl ?_
          exact fun _ hw => ⟨rfl, hw.ch⟩
          )
        )
      ·first
       | (exfalso; omega)
       | (
        refine jz ?_
        refine jsk ?_
        refine jsk ?_
        refine jy (y_pick_false rfl rfl) ?_
        refine jz ?_
        refine jsk ?_
        refine jy (y_pick_false rfl rfl) ?_
        refine jz ?_
        refine jnt ?_
        refine jc_ret ?_
        refine jq_then_ret ?_
        refine jq_ret1 rfl rfl ?_
        exact fun _ hw => ⟨rfl, hw.ch⟩
        )
      )
   )

theorem lotteryFamily_any (s : ByteArray) (o0 o1 o2 o3 : Int) (g : Bool) (w : World) (f0 : fits .u64 o0) (f1 : fits .u64 o1) (f2 : fits .u64 o2) (f3 : fits .u64 o3) : Calls Try.prog 3 #[.string s, .agg #[.int .u64 o0, .int .u64 o1, .int .u64 o2, .int .u64 o3], .bool g] w fun e w' => e = .returned (.bool true) ∧ Ch [] w w' := by
  cases g
  · exact lotteryFamily_f s o0 o1 o2 o3 w f0 f1 f2 f3
  · exact lotteryFamily_t s o0 o1 o2 o3 w f0 f1 f2 f3
end Go.Proofs.Ytghomncegjamfaa