/- The fixed case of the lottery's laws. Written by program (walk.py) out of a table of contracts and invariants. -/
import Derived.Test.YtghomncegjamfaaLx
import Derived.Test.YtghomncegjamfaaMloq
namespace Go.Proofs.Ytghomncegjamfaa
open Go.RowKit
set_option maxRecDepth 100000
set_option maxHeartbeats 2000000
set_option linter.unusedVariables false
set_option linter.unusedSimpArgs false
attribute [local irreducible] Yields Makes Writes
theorem take_both {α : Type} {l m : List α} {i : Nat} (h : i < l.length) (hm : i < m.length) (ht : l.take i = m.take i) (he : l[i] = m[i]) : l.take (i + 1) = m.take (i + 1) := by
  rw [List.take_succ_eq_append_getElem h, List.take_succ_eq_append_getElem hm, ht, he]
theorem get_ne {α : Type} {l m : List α} {i : Nat} (h : i < l.length) (hm : i < m.length) {x y : α} (hx : l[i] = x) (hy : m[i] = y) (he : x ≠ y) : l ≠ m := by
  rintro rfl
  exact he (hx.symm.trans hy)
theorem len_ne {α : Type} {l m : List α} (h : l.length ≠ m.length) : l ≠ m := fun e => h (by rw [e])

theorem lsame_any (ad aq : Option Addr) (c d : Nat) (l m : List Of) (w : World) (hl : l.length ≤ 1000) (hm : m.length ≤ 1000) (hE : ElAt w ad 9 (l.map Of.c)) (hQ : ElAt w aq 9 (m.map Of.c)) :
  Calls Try.prog 23 #[.slice ad l.length c, .slice aq m.length d] w fun e w' => e = .returned (.bool (decide (l = m))) ∧ Ch [] w w' := by
 refine calls_of (n := 26) (E := [(0, .slice ad l.length c), (1, .slice aq m.length d)]) (W := Hp w [] []) Try.func23 rfl rfl (Nat.le_of_ble_eq_true rfl) rfl (Hp.nil _ _) ?_
 refine jsr ?_
 refine jz ?_
 refine jnt ?_
 refine jc_seq ?_
 refine jsr ?_
 refine jz ?_
 refine jy (y_len_slice rfl) ?_
 refine jz ?_
 refine jy (y_len_slice rfl) ?_
 refine jy (y_neq rfl rfl) ?_
 refine jl_prop (fun h10 => ?_) (fun h10 => ?_)
 ·first
  | (exfalso; omega)
  | (
   refine jnt ?_
   refine jc_true rfl ?_
   refine jsr ?_
   refine jz ?_
   refine jnt ?_
   refine jc_ret ?_
   refine jq_then_ret ?_
   refine jq_ret1 rfl rfl ?_
   exact fun _ hw => ⟨congrArg (fun b => Ending.returned (Value.bool b)) ((decide_eq_false (len_ne (by omega))).symm), hw.ch⟩
   )
 ·first
  | (exfalso; omega)
  | (
   refine jnt ?_
   refine jc_false rfl ?_
   refine jc_skip ?_
   refine jq_then ?_
   refine jc_seq ?_
   refine jsr ?_
   refine jz ?_
   refine jnt ?_
   refine jc_block ?_
   refine jc_loop (fun (i : Nat) => [(0, .slice ad l.length c), (1, .slice aq m.length d), (5, .int .i64 (i : Nat))]) (fun (i : Nat) => fun w' => (i ≤ l.length ∧ l.take i = m.take i) ∧ Hp w [] [] w') (fun (i : Nat) => l.length - i) 0 ?_ ?_ ?_
   ·exact ⟨rfl, rfl, rfl, trivial⟩
   ·exact fun _ h => ⟨⟨by omega, rfl⟩, h⟩
   ·intro i
    refine jc_and (fun hi => ?_)
    refine jc_seq ?_
    refine jsr ?_
    refine jz ?_
    refine jz ?_
    refine jy (y_len_slice rfl) ?_
    refine jy (y_lss rfl rfl) ?_
    refine jl_prop (fun h14 => ?_) (fun h14 => ?_)
    ·first
     | (exfalso; omega)
     | (
      have hlt : i < l.length := by omega
      have hlq : i < m.length := by omega
      obtain ⟨bb, oo, ea, hold⟩ := hE.get hlt
      obtain ⟨bq, oq, eq, holq⟩ := hQ.get hlq
      subst ea
      subst eq
      generalize hxe : l[i]'hlt = x at *
      generalize hye : m[i]'hlq = y at *
      refine jnt ?_
      refine jc_true rfl ?_
      refine jc_skip ?_
      refine jq_then ?_
      refine jc_seq ?_
      refine jc_block ?_
      refine jc_seq ?_
      refine jc_draw (by kernel_rfl) (fun _ h => h.drew) ?_
      refine juz ?_
      refine juz ?_
      refine juy (y_indexAddr_slice (off := oo + i * 9) rfl rfl (by omega) (by omega) (by omega)) ?_
      refine juy (y_loadAgg_old rfl rfl hold (by simp)) ?_
      refine juz ?_
      refine juz ?_
      refine juy (y_indexAddr_slice (off := oq + i * 9) rfl rfl (by omega) (by omega) (by omega)) ?_
      refine juy (y_loadAgg_old rfl rfl holq (by simp)) ?_
      refine juy (y_neq_agg rfl rfl (by kernel_rfl) (fun w => eq_rof 9998 x y w)) ?_
      refine ju_bool (fun h25 => ?_) (fun h25 => ?_)
      ·skip
       refine ju_nil ?_
       refine jq_then ?_
       refine jc_true rfl ?_
       refine jsr ?_
       refine jz ?_
       refine jnt ?_
       refine jc_ret ?_
       refine jq_block_ret ?_
       refine jq_then_ret ?_
       refine jq_then_ret ?_
       refine jq_block_ret ?_
       refine jq_then_ret ?_
       refine jq_ret1 rfl rfl ?_
       exact fun _ hw => ⟨congrArg (fun b => Ending.returned (Value.bool b)) ((decide_eq_false (get_ne hlt hlq hxe hye (by first | assumption | simp_all))).symm), hw.ch⟩
      ·skip
       refine ju_nil ?_
       refine jq_then ?_
       refine jc_false rfl ?_
       refine jc_skip ?_
       refine jq_block ?_
       refine jq_then ?_
       refine jc_region ?_
       refine jz ?_
       refine jy (y_add_fits rfl rfl (by simp only [fits]; omega)) ?_
       refine jz ?_
       refine jl_nil ?_
       refine jq_round (i := i) (i + 1) ?_ ?_ ?_
       ·omega
       ·exact ⟨rfl, rfl, lk_int rfl (by omega), trivial⟩
       ·exact fun _ h => ⟨⟨by omega, take_both hlt hlq hi.2 (by rw [hxe, hye]; first | assumption | simp_all)⟩, h⟩
      )
    ·first
     | (exfalso; omega)
     | (
      refine jnt ?_
      refine jc_false rfl ?_
      refine jc_exit ?_
      refine jq_then_exit ?_
      refine jq_then_exit ?_
      refine jq_hit ?_
      refine jq_then ?_
      refine jsr ?_
      refine jz ?_
      refine jnt ?_
      refine jc_ret ?_
      refine jq_ret1 rfl rfl ?_
      exact fun _ hw => ⟨congrArg (fun b => Ending.returned (Value.bool b)) ((decide_eq_true (by have h1 := hi.2; rwa [List.take_of_length_le (by omega), List.take_of_length_le (by omega)] at h1)).symm), hw.ch⟩
      )
   )

theorem r1sum_any (ad : Option Addr) (c : Nat) (l : List Int) (w : World) (hf : ∀ n ∈ l, fits .u64 n) (hl : l.length ≤ 1000000000) (hL : Ints w ad .u64 l) :
  Calls Try.prog 20 #[.slice ad l.length c] w fun e w' => e = .returned (.tuple #[.int .u64 (sumA l), .int .i64 (sumE l)]) ∧ Ch [] w w' := by
 refine calls_of (n := 27) (E := [(0, .slice ad l.length c)]) (W := Hp w [] []) Try.func20 rfl rfl (Nat.le_of_ble_eq_true rfl) rfl (Hp.nil _ _) ?_
 refine jsr ?_
 refine jz ?_
 refine jz ?_
 refine jnt ?_
 refine jsr ?_
 refine jz ?_
 refine jnt ?_
 refine jc_seq ?_
 refine jsr ?_
 refine jz ?_
 refine jnt ?_
 refine jc_block ?_
 refine jc_loop (fun (i : Nat) => [(0, .slice ad l.length c), (4, .int .u64 (l.take i).sum), (5, .int .i64 (i : Nat))]) (fun (i : Nat) => fun w' => (i ≤ l.length ∧ (l.take i).sum < 18446744073709551616) ∧ Hp w [] [] w') (fun (i : Nat) => l.length - i) 0 ?_ ?_ ?_
 ·exact ⟨rfl, rfl, rfl, trivial⟩
 ·exact fun _ h => ⟨⟨by omega, by simp⟩, h⟩
 ·intro i
  refine jc_and (fun hi => ?_)
  refine jc_seq ?_
  refine jsr ?_
  refine jz ?_
  refine jz ?_
  refine jy (y_len_slice rfl) ?_
  refine jy (y_lss rfl rfl) ?_
  refine jl_prop (fun h9 => ?_) (fun h9 => ?_)
  ·first
   | (exfalso; omega)
   | (
    have hlt : i < l.length := by omega
    obtain ⟨bb, oo, ea, hc⟩ := hL i hlt
    subst ea
    have hfn := hf _ (List.getElem_mem hlt)
    simp only [fits] at hfn
    have hst := sum_take hlt
    have hpp := sum_part hf (i + 1)
    have hp0 := sum_part hf i
    generalize hxe : l[i]'hlt = n at *
    refine jnt ?_
    refine jc_true rfl ?_
    refine jc_skip ?_
    refine jq_then ?_
    refine jc_seq ?_
    refine jc_block ?_
    refine jc_seq ?_
    refine jc_seq ?_
    refine jc_draw (by kernel_rfl) (fun _ h => h.drew) ?_
    refine juz ?_
    refine juz ?_
    refine juy (y_indexAddr_slice (off := oo + i) rfl rfl (by omega) (by omega) (by omega)) ?_
    refine juy (y_load_old rfl hc (by simp)) ?_
    refine ju_call rfl (by decide) rfl (goes_func rfl) (fun w1 hw1 => pcall hw1 (rtop_any w1)) ?_
    refine juz ?_
    refine juy (y_sub_u64 rfl rfl) ?_
    refine ju_as (u := .int .u64 (18446744073709551615 - (l.take i).sum)) (congrArg (Value.int .u64) (by omega)) ?_
    refine juy (y_gtr rfl rfl) ?_
    refine ju_prop (fun h19 => ?_) (fun h19 => ?_)
    ·first
     | (exfalso; omega)
     | (
      refine ju_nil ?_
      refine jq_then ?_
      refine jc_true rfl ?_
      refine jsr ?_
      refine jz ?_
      refine jz ?_
      refine jnt ?_
      refine jc_ret ?_
      refine jq_then_ret ?_
      refine jq_block_ret ?_
      refine jq_then_ret ?_
      refine jq_then_ret ?_
      refine jq_block_ret ?_
      refine jq_then_ret ?_
      refine jq_ret2 rfl rfl rfl ?_
      exact fun _ hw => ⟨by have : 18446744073709551616 ≤ l.sum := (by omega); unfold sumA sumE; rw [if_pos this, if_pos this], hw.ch⟩
      )
    ·first
     | (exfalso; omega)
     | (
      refine ju_nil ?_
      refine jq_then ?_
      refine jc_false rfl ?_
      refine jc_skip ?_
      refine jq_then ?_
      refine jc_region ?_
      refine jz ?_
      refine jz ?_
      refine jz ?_
      refine jy (y_indexAddr_slice (off := oo + i) rfl rfl (by omega) (by omega) (by omega)) ?_
      refine jy (y_load_old rfl hc (by simp)) ?_
      refine jy (y_add_u64 rfl rfl) ?_
      refine jl_as (u := .int .u64 (l.take (i + 1)).sum) (congrArg (Value.int .u64) (by omega)) ?_
      refine jz ?_
      refine jl_nil ?_
      refine jq_block ?_
      refine jq_then ?_
      refine jc_region ?_
      refine jz ?_
      refine jy (y_add_fits rfl rfl (by simp only [fits]; omega)) ?_
      refine jz ?_
      refine jl_nil ?_
      refine jq_round (i := i) (i + 1) ?_ ?_ ?_
      ·omega
      ·exact ⟨rfl, rfl, lk_int rfl (by omega), trivial⟩
      ·exact fun _ h => ⟨⟨by omega, by omega⟩, h⟩
      )
    )
  ·first
   | (exfalso; omega)
   | (
    refine jnt ?_
    refine jc_false rfl ?_
    refine jc_exit ?_
    refine jq_then_exit ?_
    refine jq_then_exit ?_
    refine jq_hit ?_
    refine jq_then ?_
    refine jsr ?_
    refine jz ?_
    refine jz ?_
    refine jz ?_
    refine jnt ?_
    refine jc_ret ?_
    refine jq_ret2 rfl rfl rfl ?_
    exact fun _ hw => ⟨by have h1 := hi.2; rw [List.take_of_length_le (by omega)] at h1 ⊢; unfold sumA sumE; rw [if_neg (by omega), if_neg (by omega)], hw.ch⟩
    )


/-! ### The fixed case -/
def strCl : ByteArray := ⟨#[99, 108, 105, 101, 110, 116]⟩
def strX : ByteArray := ⟨#[120]⟩
def fK : ByteArray := rootK strCl 1
def fO : Of := ⟨strCh, 1, 30, 2, 10, commitS strSalt 7, strSalt, 7, false⟩
def fO' : Of := ⟨strCh, 1, 30, 2, 10, commitS strSalt 7, strSalt, 7, true⟩
def fB0 : Bk := ⟨strCh, fK, 1, []⟩
def fB1 : Bk := ⟨strCh, fK, 2, [fO]⟩
def fB2 : Bk := ⟨strCh, fK, 2, [fO']⟩
def fB3 : Bk := ⟨strCh, fK, 2, []⟩
def fT0 : Tk := tkOf fO 4
def fSig : ByteArray := signK strCl 1 0 (tkText fT0)
def fT1 : Tk := ⟨strCh, 1, 30, 2, 10, commitS strSalt 7, 4, fSig⟩
def fW : Wn := ⟨fT1, strSalt, 7⟩
attribute [local irreducible] commitS signK rootK
theorem fsig_size : fSig.size ≤ 400 := by unfold fSig; rw [signK_size strCl (h := 1) (i := 0) (by decide)]; decide
theorem f_make1 : makeE fB0 30 2 10 strSalt 17 = 0 ∧ makeO fB0 30 2 10 strSalt 17 = fO ∧ makeB fB0 30 2 10 strSalt 17 = fB1 := by
  have h : makeE fB0 30 2 10 strSalt 17 = 0 := by decide
  have h2 : newO fB0 30 2 10 strSalt 17 = fO := by
    unfold newO; rw [show fairV 17 10 = 7 by decide]; rfl
  refine ⟨h, ?_, ?_⟩
  · unfold makeO; rw [if_pos h, h2]
  · unfold makeB; rw [if_pos h, h2]; rfl
theorem f_make2 : makeE fB1 30 2 7 strSalt 17 = 4 ∧ makeO fB1 30 2 7 strSalt 17 = of0 ∧ makeB fB1 30 2 7 strSalt 17 = fB1 := by
  have h : makeE fB1 30 2 7 strSalt 17 = 4 := by
    have h1 : offE 30 2 7 strSalt 17 = 4 := by decide
    unfold makeE; rw [h1, if_neg (by decide)]
  exact ⟨h, if_neg (by rw [h]; decide), if_neg (by rw [h]; decide)⟩
theorem f_make3 : makeE fB1 30 8 7 strSalt 17 = 1 ∧ makeO fB1 30 8 7 strSalt 17 = of0 ∧ makeB fB1 30 8 7 strSalt 17 = fB1 := by
  have h : makeE fB1 30 8 7 strSalt 17 = 1 := by
    have h1 : offE 30 8 7 strSalt 17 = 1 := by decide
    unfold makeE; rw [h1, if_neg (by decide)]
  exact ⟨h, if_neg (by rw [h]; decide), if_neg (by rw [h]; decide)⟩
theorem f_rise (o : Of) : Rising [o] := List.pairwise_singleton _ _
theorem f_take0 : takeE fB1 fT0 = 10 := by
  have h := (take_at (b := fB1) (i := 0) (c := 4) (s := ⟨#[]⟩) (f_rise fO) (by decide)).1
  rw [show tkSig (fB1.l[0]'(by decide)) 4 ⟨#[]⟩ = fT0 from rfl, if_neg (by show ¬ false = true; decide), if_neg (by rw [show signedB fB1.cl fT0 = false from signed_none (cl := fK) (o := fO) (c := 4)]; decide)] at h
  exact h
theorem f_signed : signedB fK fT1 = true := signed_key strCl (h := 1) (i := 0) (by decide) (by decide) (o := fO) (c := 4) (by decide) (commitS_size _ _) fsig_size
theorem f_take1 : takeE fB1 fT1 = 0 := by
  have h := (take_at (b := fB1) (i := 0) (c := 4) (s := fSig) (f_rise fO) (by decide)).1
  rw [show tkSig (fB1.l[0]'(by decide)) 4 fSig = fT1 from rfl, if_neg (by show ¬ false = true; decide), if_pos (by exact f_signed)] at h
  exact h
theorem f_take2 : takeE fB2 fT1 = 7 := by
  have h := (take_at (b := fB2) (i := 0) (c := 4) (s := fSig) (f_rise fO') (by decide)).1
  rw [show tkSig (fB2.l[0]'(by decide)) 4 fSig = fT1 from rfl, if_pos (by rfl)] at h
  exact h
theorem f_take3 : takeE fB3 fT1 = 6 := by
  have h : findL fB3.l fT1.serial = -1 := rfl
  unfold takeE; rw [h, if_pos (by decide)]
theorem f_may : mayO fB3 fO = true := by
  refine decide_eq_true ⟨rfl, by decide, by decide, by decide, by decide, by decide, by decide, rfl⟩
theorem f_put1 : putE fB3 fO = 0 := by
  unfold putE; rw [if_pos f_may]; decide
theorem f_put2 : putE fB1 fO = 7 := by
  have h : mayO fB1 fO = true := decide_eq_true ⟨rfl, by decide, by decide, by decide, by decide, by decide, by decide, rfl⟩
  unfold putE; rw [if_pos h]; decide
theorem f_won : wonE fK fW = 0 ∧ wonV fK fW = 30 := by
  have h := won_ok (cl := fK) (x := fW) ⟨tkMay_iff.2 ⟨by decide, commitS_size _ _, fsig_size⟩, by decide⟩ f_signed (decide_eq_true rfl) (by decide)
  exact ⟨h.2, h.1⟩

end Go.Proofs.Ytghomncegjamfaa

namespace Go.Proofs.Ytghomncegjamfaa
open Go.RowKit
set_option maxRecDepth 100000
set_option maxHeartbeats 2000000
set_option linter.unusedVariables false
set_option linter.unusedSimpArgs false
attribute [local irreducible] Yields Makes Writes
attribute [local irreducible] commitS signK rootK
theorem cq {P : Program} {f : Nat} {a : Array Value} {w : World} {u v : Value} (h : Calls P f a w fun e w' => e = .returned v ∧ Ch [] w w') (e : v = u) : Calls P f a w fun e w' => e = .returned u ∧ Ch [] w w' := e ▸ h
theorem cb {P : Program} {f : Nat} {args : Array Value} {w : World} {v v' : Value} {B B1 B2 : Bk} {b c : Nat} {ad : Option Addr} (h : Calls P f args w fun e w' => ∃ pr : Option Addr × Nat, e = .returned v ∧ Upd w w' (B.h b ad c) (B1.h b pr.1 pr.2) ∧ RowT w w' (ad, c) pr B.l B1.l) (e1 : v = v') (e2 : B1 = B2) :
    Calls P f args w fun e w' => ∃ pr : Option Addr × Nat, e = .returned v' ∧ Upd w w' (B.h b ad c) (B2.h b pr.1 pr.2) ∧ RowT w w' (ad, c) pr B.l B2.l := by subst e1 e2; exact h
theorem take_no {B : Bk} {t : Tk} {n : Int} (h : takeE B t = n) (hn : n ≠ 0) : Value.tuple #[.int .u64 (takeV B t), .agg (Wn.c (takeW B t)).toArray, .bool (takeI B t), .int .i64 (takeE B t)] = .tuple #[.int .u64 0, .agg (Wn.c wn0).toArray, .bool false, .int .i64 n] ∧ takeB B t = B := by
  have h0 : ¬ takeE B t = 0 := by rw [h]; exact hn
  refine ⟨?_, if_neg h0⟩
  rw [show takeV B t = 0 from if_neg h0, show takeW B t = wn0 from if_neg h0, show takeI B t = false from if_neg h0, h]
theorem f_win : Value.tuple #[.int .u64 (takeV fB1 fT1), .agg (Wn.c (takeW fB1 fT1)).toArray, .bool (takeI fB1 fT1), .int .i64 (takeE fB1 fT1)] = .tuple #[.int .u64 6, .agg (Wn.c fW).toArray, .bool true, .int .i64 0] ∧ takeB fB1 fT1 = fB2 := by
  have h := f_take1
  have ho : takeO fB1 fT1 = fO := (take_at (b := fB1) (i := 0) (c := 4) (s := fSig) (f_rise fO) (by decide)).2
  refine ⟨?_, ?_⟩
  · rw [show takeV fB1 fT1 = 6 by unfold takeV; rw [if_pos h, ho]; decide, show takeW fB1 fT1 = fW by unfold takeW; rw [if_pos h, ho]; rfl, show takeI fB1 fT1 = true by unfold takeI; rw [if_pos h, ho]; decide, h]
  · unfold takeB; rw [if_pos h, ho]; rfl
theorem fK_size : fK.size = 16 := rootK_size strCl (by decide)
theorem commit_sz (s : ByteArray) (n : Int) : (commitS s n).size ≤ 1000 := by rw [commitS_size]; decide
theorem fO_fit : fO.Fit := ⟨⟨by decide, by decide⟩, ⟨by decide, by decide⟩, ⟨by decide, by decide⟩, ⟨by decide, by decide⟩, ⟨by decide, by decide⟩⟩
theorem fO'_fit : fO'.Fit := ⟨⟨by decide, by decide⟩, ⟨by decide, by decide⟩, ⟨by decide, by decide⟩, ⟨by decide, by decide⟩, ⟨by decide, by decide⟩⟩
theorem one_fit {ch cl : ByteArray} {n : Int} {o : Of} (hn : fits .u64 n) (h : o.Fit) (h2 : o.chan.size ≤ 1000 ∧ o.commit.size ≤ 1000 ∧ o.salt.size ≤ 1000) : Bk.Fit ⟨ch, cl, n, [o]⟩ := ⟨hn, fun x hx => by rw [List.mem_singleton.1 hx]; exact h, fun x hx => by rw [List.mem_singleton.1 hx]; exact h2, by simp⟩
theorem nil_fit {ch cl : ByteArray} {n : Int} (hn : fits .u64 n) : Bk.Fit ⟨ch, cl, n, []⟩ := ⟨hn, fun x hx => (by cases hx), fun x hx => (by cases hx), by simp⟩
theorem fB0_fit : fB0.Fit := nil_fit ⟨by decide, by decide⟩
theorem fB1_fit : fB1.Fit := one_fit ⟨by decide, by decide⟩ fO_fit ⟨by decide, commit_sz _ _, by decide⟩
theorem fB2_fit : fB2.Fit := one_fit ⟨by decide, by decide⟩ fO'_fit ⟨by decide, commit_sz _ _, by decide⟩
theorem fB3_fit : fB3.Fit := nil_fit ⟨by decide, by decide⟩
theorem fT_fit : ∀ s, (⟨strCh, 1, 30, 2, 10, commitS strSalt 7, 4, s⟩ : Tk).Fit := fun s => ⟨(⟨by decide, by decide⟩ : fits .u64 1), (⟨by decide, by decide⟩ : fits .u64 30), (⟨by decide, by decide⟩ : fits .u64 2), (⟨by decide, by decide⟩ : fits .u64 10), (⟨by decide, by decide⟩ : fits .u64 4)⟩
theorem fW_fit : fW.Fit := ⟨fT_fit _, ⟨by decide, by decide⟩⟩

theorem fixed16_any (w : World) :
  Calls Try.prog 16 #[] w fun e w' => e = .returned (.bool true) ∧ Ch [] w w' := by
 refine calls_of (n := 257) (E := []) (W := Hp w [] []) Try.func16 rfl rfl (Nat.le_of_ble_eq_true rfl) rfl (Hp.nil _ _) ?_
 refine jsr ?_
 refine jz ?_
 refine jnt ?_
 refine jsr ?_
 refine jl_ncall rfl (by decide) rfl (goes_func rfl) (fun w1 hw1 => mnew_ok (strCl) (1) w1 (by decide) (by decide)) (fun _ => rfl) (by first | (intro A hA; cases hA; done) | intro A hA k hk; simp only [List.mem_cons, List.not_mem_nil, or_false] at hA; first | (rcases hA with rfl | rfl | rfl <;> (cases hk; simp)) | (rcases hA with rfl | rfl <;> (cases hk; simp)) | (subst hA; cases hk; simp)) (fun bk wpk wk hpk hnk hfk => ?_)
 have hallk := hnk.hp (hpk)
 have hkk := hfk [] (hpk.feet_lt (by intro k hk; first | (cases hk; done) | (simp only [List.mem_cons, List.not_mem_nil, or_false] at hk; subst hk; exact ⟨_, mem0, rfl⟩)))
 refine jz ?_
 refine jz ?_
 refine jz ?_
 refine jz ?_
 refine jz ?_
 refine jnt ?_
 refine jc_seq ?_
 refine jsr ?_
 refine jz ?_
 refine jy (y_eql_nil rfl rfl) ?_
 refine jl_as (u := .bool false) rfl ?_
 refine jz ?_
 refine jz ?_
 refine jy (y_neq rfl rfl) ?_
 refine jl_prop (fun h48 => ?_) (fun h48 => ?_)
 ·first
  | (exfalso; omega)
  | (
   refine jy (y_pick_false rfl rfl) ?_
   refine jnt ?_
   refine jc_true rfl ?_
   refine jsr ?_
   refine jz ?_
   refine jnt ?_
   refine jc_ret ?_
   refine jq_then_ret ?_
   refine jq_ret1 rfl rfl ?_
   exact fun _ hw => ⟨rfl, (hallk.next hw (by repeat first | exact ⟨_, mem0, rfl⟩ | exact ⟨_, mem1, rfl⟩ | exact ⟨_, mem2, rfl⟩ | refine List.forall_mem_cons.2 ⟨?_, ?_⟩ | exact fun _ h => absurd h List.not_mem_nil)).ch⟩
   )
 ·first
  | (exfalso; omega)
  | (
   refine jy (y_pick_false rfl rfl) ?_
   refine jnt ?_
   refine jc_false rfl ?_
   refine jc_skip ?_
   refine jq_then ?_
   refine jsr ?_
   refine jpc (goes_func rfl) (fun w1 hw1 => lchan_any w1) ?_
   refine jz ?_
   refine jpc (goes_func rfl) (fun w1 hw1 => cq (kroot_any _ bk.1 bk.2 strCl 1 w1 (hkk.keep hw1)) (congrArg Value.string (show rootK strCl 1 = fK from rfl))) ?_
   refine jl_fcall rfl (by decide) rfl (goes_func rfl) (fun w1 hw1 => lnew_ok strCh fK w1 (by decide) fK_size) (fun b54 => ?_)
   refine jz ?_
   refine jz ?_
   refine jz ?_
   refine jz ?_
   refine jz ?_
   refine jnt ?_
   refine jsr ?_
   refine jz ?_
   refine jpc (goes_func rfl) (fun w1 hw1 => cq (kroot_any _ bk.1 bk.2 strCl 1 w1 (hkk.keep hw1)) (congrArg Value.string (show rootK strCl 1 = fK from rfl))) ?_
   refine jpc (goes_func rfl) (fun w1 hw1 => lnew_bad strX fK w1 (fun h => absurd h.1 (by decide))) ?_
   refine jz ?_
   refine jz ?_
   refine jz ?_
   refine jz ?_
   refine jz ?_
   refine jnt ?_
   refine jc_seq ?_
   refine jsr ?_
   refine jz ?_
   refine jy (y_eql_nil rfl rfl) ?_
   refine jl_as (u := .bool false) rfl ?_
   refine jz ?_
   refine jz ?_
   refine jy (y_neq rfl rfl) ?_
   refine jl_prop (fun h67 => ?_) (fun h67 => ?_)
   ·first
    | (exfalso; omega)
    | (
     refine jy (y_pick_false rfl rfl) ?_
     refine jnt ?_
     refine jc_true rfl ?_
     refine jsr ?_
     refine jz ?_
     refine jnt ?_
     refine jc_ret ?_
     refine jq_then_ret ?_
     refine jq_ret1 rfl rfl ?_
     exact fun _ hw => ⟨rfl, (hallk.next hw (by repeat first | exact ⟨_, mem0, rfl⟩ | exact ⟨_, mem1, rfl⟩ | exact ⟨_, mem2, rfl⟩ | refine List.forall_mem_cons.2 ⟨?_, ?_⟩ | exact fun _ h => absurd h List.not_mem_nil)).ch⟩
     )
   ·first
    | (exfalso; omega)
    | (
     refine jy (y_pick_false rfl rfl) ?_
     refine jnt ?_
     refine jc_false rfl ?_
     refine jc_skip ?_
     refine jq_then ?_
     refine jc_seq ?_
     refine jc_world (fun _ h => (h.nilrow 33 9).cast (H' := [Bk.r fB0.l none 0, Bk.h fB0 b54 none 0, .cells bk.2 [.int .i64 ((0 : Nat) : Int), .int .i64 ((2 ^ 1 : Nat) : Int)]]) rfl) ?_
     refine jc_region ?_
     refine jz ?_
     refine jl_bcall (B := fB0) (B' := fB1) (b := b54) (ad := none) (c := 0) (v := .tuple #[.agg (Of.c fO).toArray, .int .i64 0]) rfl (by decide) rfl (goes_func rfl) (fun w1 hw1 => cb (bk_make hw1 (show BkIn _ fB0 b54 none 0 from ⟨(by first | exact mem0 | exact mem1 | exact mem2 | exact mem3 | exact mem4 | exact mem5), (by first | exact mem0 | exact mem1 | exact mem2 | exact mem3 | exact mem4 | exact mem5), by decide⟩) fB0_fit 30 2 10 strSalt 17 ⟨by decide, by decide⟩ ⟨by decide, by decide⟩ ⟨by decide, by decide⟩ ⟨by decide, by decide⟩ (by decide)) (by rw [f_make1.1, f_make1.2.1]) f_make1.2.2) (fun _ => (by first | exact rep0 | exact rep1 | exact rep2 | exact rep3 | exact rep4)) (fun _ => (by first | exact rep0 | exact rep1 | exact rep2 | exact rep3 | exact rep4)) (fun pa => ?_)
     refine jz ?_
     refine jz ?_
     refine jz ?_
     refine jl_m rfl (by decide) rfl (m_alloc) (fun b7 => ?_)
     refine jst ?_
     refine jz ?_
     refine jnt ?_
     refine jsr ?_
     refine jz ?_
     refine jl_bcall (B := fB1) (B' := fB1) (b := b54) (ad := pa.1) (c := pa.2) (v := .tuple #[.agg (Of.c of0).toArray, .int .i64 4]) rfl (by decide) rfl (goes_func rfl) (fun w1 hw1 => cb (bk_make hw1 (show BkIn _ fB1 b54 pa.1 pa.2 from ⟨(by first | exact mem0 | exact mem1 | exact mem2 | exact mem3 | exact mem4 | exact mem5), (by first | exact mem0 | exact mem1 | exact mem2 | exact mem3 | exact mem4 | exact mem5), by decide⟩) fB1_fit 30 2 7 strSalt 17 ⟨by decide, by decide⟩ ⟨by decide, by decide⟩ ⟨by decide, by decide⟩ ⟨by decide, by decide⟩ (by decide)) (by rw [f_make2.1, f_make2.2.1]) f_make2.2.2) (fun _ => (by first | exact rep0 | exact rep1 | exact rep2 | exact rep3 | exact rep4)) (fun _ => (by first | exact rep0 | exact rep1 | exact rep2 | exact rep3 | exact rep4)) (fun pb => ?_)
     refine jz ?_
     refine jz ?_
     refine jz ?_
     refine jl_m rfl (by decide) rfl (m_alloc) (fun b9 => ?_)
     refine jst ?_
     refine jz ?_
     refine jnt ?_
     refine jc_seq ?_
     refine jc_world (fun _ h => h.pop) ?_
     refine jc_region ?_
     refine jz ?_
     refine jl_bcall (B := fB1) (B' := fB1) (b := b54) (ad := pb.1) (c := pb.2) (v := .tuple #[.agg (Of.c of0).toArray, .int .i64 1]) rfl (by decide) rfl (goes_func rfl) (fun w1 hw1 => cb (bk_make hw1 (show BkIn _ fB1 b54 pb.1 pb.2 from ⟨(by first | exact mem0 | exact mem1 | exact mem2 | exact mem3 | exact mem4 | exact mem5), (by first | exact mem0 | exact mem1 | exact mem2 | exact mem3 | exact mem4 | exact mem5), by decide⟩) fB1_fit 30 8 7 strSalt 17 ⟨by decide, by decide⟩ ⟨by decide, by decide⟩ ⟨by decide, by decide⟩ ⟨by decide, by decide⟩ (by decide)) (by rw [f_make3.1, f_make3.2.1]) f_make3.2.2) (fun _ => (by first | exact rep0 | exact rep1 | exact rep2 | exact rep3 | exact rep4)) (fun _ => (by first | exact rep0 | exact rep1 | exact rep2 | exact rep3 | exact rep4)) (fun pc => ?_)
     refine jz ?_
     refine jz ?_
     refine jz ?_
     refine jl_m rfl (by decide) rfl (m_alloc) (fun b11 => ?_)
     refine jst ?_
     refine jz ?_
     refine jnt ?_
     refine jc_seq ?_
     refine jc_world (fun _ h => h.pop) ?_
     refine jc_region ?_
     refine jz ?_
     refine jpc (goes_func rfl) (fun w1 hw1 => cq (bk_open hw1 (show BkIn _ fB1 b54 pc.1 pc.2 from ⟨(by first | exact mem0 | exact mem1 | exact mem2 | exact mem3 | exact mem4 | exact mem5), (by first | exact mem0 | exact mem1 | exact mem2 | exact mem3 | exact mem4 | exact mem5), by decide⟩)) (show Value.int .u64 (openL fB1.l) = .int .u64 30 from rfl)) ?_
     refine jz ?_
     refine jnt ?_
     refine jsr ?_
     refine jz ?_
     refine jpc (goes_func rfl) (fun w1 hw1 => lticket_any fO 4 w1) ?_
     refine jl_m rfl (by decide) rfl (m_alloc) (fun b14 => ?_)
     refine jst ?_
     refine jnt ?_
     refine jsr ?_
     refine jz ?_
     refine jz ?_
     refine jl_bcall (B := fB1) (B' := fB1) (b := b54) (ad := pc.1) (c := pc.2) (v := .tuple #[.int .u64 0, .agg (Wn.c wn0).toArray, .bool false, .int .i64 10]) rfl (by decide) rfl (goes_func rfl) (fun w1 hw1 => cb (bk_take hw1 (show BkIn _ fB1 b54 pc.1 pc.2 from ⟨(by first | exact mem0 | exact mem1 | exact mem2 | exact mem3 | exact mem4 | exact mem5), (by first | exact mem0 | exact mem1 | exact mem2 | exact mem3 | exact mem4 | exact mem5), by decide⟩) fB1_fit fT0 (fT_fit _) (by decide) (Nat.le_trans (commit_sz _ _) (by decide)) (by decide)) (take_no f_take0 (by decide)).1 (take_no f_take0 (by decide)).2) (fun _ => (by first | exact rep0 | exact rep1 | exact rep2 | exact rep3 | exact rep4)) (fun _ => (by first | exact rep0 | exact rep1 | exact rep2 | exact rep3 | exact rep4)) (fun pd => ?_)
     refine jz ?_
     refine jz ?_
     refine jz ?_
     refine jz ?_
     refine jl_as (u := .bool false) rfl ?_
     refine jz ?_
     refine jl_m rfl (by decide) rfl (m_alloc) (fun b16 => ?_)
     refine jz ?_
     refine jst ?_
     refine jz ?_
     refine jz ?_
     refine jnt ?_
     refine jc_seq ?_
     refine jc_world (fun _ h => h.pop) ?_
     refine jc_region ?_
     refine jz ?_
     refine jz ?_
     refine jpc (goes_func rfl) (fun w1 hw1 => text_any fT0 w1 (fT_fit _) (by decide) (Nat.le_trans (commit_sz _ _) (by decide))) ?_
     refine jl_ucallH rfl (by decide) rfl (goes_func rfl) (by rfl) (fun w1 hw1 => ksign_ok [bk.2] bk.1 bk.2 strCl 1 w1 (hkk.keep hw1) (by simp) (by decide) (by decide) (tkText fT0) (by have := tkText_small fT0; omega) 0 (by decide) (hw1.get mem4)) (by first | exact rep0 | exact rep1 | exact rep2 | exact rep3 | exact rep4) ?_
     refine jl_as (u := .tuple #[.string fSig, .int .i64 0]) rfl ?_
     refine jz ?_
     refine jz ?_
     refine jz ?_
     refine jz ?_
     refine jz ?_
     refine jnt ?_
     refine jsr ?_
     refine jz ?_
     refine jz ?_
     refine jst ?_
     refine jnt ?_
     refine jsr ?_
     refine jz ?_
     refine jz ?_
     refine jl_bcall (B := fB1) (B' := fB2) (b := b54) (ad := pd.1) (c := pd.2) (v := .tuple #[.int .u64 6, .agg (Wn.c fW).toArray, .bool true, .int .i64 0]) rfl (by decide) rfl (goes_func rfl) (fun w1 hw1 => cb (bk_take hw1 (show BkIn _ fB1 b54 pd.1 pd.2 from ⟨(by first | exact mem0 | exact mem1 | exact mem2 | exact mem3 | exact mem4 | exact mem5), (by first | exact mem0 | exact mem1 | exact mem2 | exact mem3 | exact mem4 | exact mem5), by decide⟩) fB1_fit fT1 (fT_fit _) (by decide) (Nat.le_trans (commit_sz _ _) (by decide)) (Nat.le_trans fsig_size (by decide))) f_win.1 f_win.2) (fun _ => (by first | exact rep0 | exact rep1 | exact rep2 | exact rep3 | exact rep4)) (fun _ => (by first | exact rep0 | exact rep1 | exact rep2 | exact rep3 | exact rep4)) (fun pe => ?_)
     refine jz ?_
     refine jz ?_
     refine jz ?_
     refine jz ?_
     refine jl_as (u := .bool true) rfl ?_
     refine jz ?_
     refine jl_m rfl (by decide) rfl (m_alloc) (fun b22 => ?_)
     refine jz ?_
     refine jst ?_
     refine jz ?_
     refine jz ?_
     refine jnt ?_
     refine jsr ?_
     refine jz ?_
     refine jz ?_
     refine jl_bcall (B := fB2) (B' := fB2) (b := b54) (ad := pe.1) (c := pe.2) (v := .tuple #[.int .u64 0, .agg (Wn.c wn0).toArray, .bool false, .int .i64 7]) rfl (by decide) rfl (goes_func rfl) (fun w1 hw1 => cb (bk_take hw1 (show BkIn _ fB2 b54 pe.1 pe.2 from ⟨(by first | exact mem0 | exact mem1 | exact mem2 | exact mem3 | exact mem4 | exact mem5), (by first | exact mem0 | exact mem1 | exact mem2 | exact mem3 | exact mem4 | exact mem5), by decide⟩) fB2_fit fT1 (fT_fit _) (by decide) (Nat.le_trans (commit_sz _ _) (by decide)) (Nat.le_trans fsig_size (by decide))) (take_no f_take2 (by decide)).1 (take_no f_take2 (by decide)).2) (fun _ => (by first | exact rep0 | exact rep1 | exact rep2 | exact rep3 | exact rep4)) (fun _ => (by first | exact rep0 | exact rep1 | exact rep2 | exact rep3 | exact rep4)) (fun pf => ?_)
     refine jz ?_
     refine jz ?_
     refine jz ?_
     refine jz ?_
     refine jl_as (u := .bool false) rfl ?_
     refine jz ?_
     refine jl_m rfl (by decide) rfl (m_alloc) (fun b26 => ?_)
     refine jz ?_
     refine jst ?_
     refine jz ?_
     refine jz ?_
     refine jnt ?_
     refine jc_seq ?_
     refine jc_world (fun _ h => h.pop) ?_
     refine jc_draw (by kernel_rfl) (fun _ h => h.drew) ?_
     refine juz ?_
     refine ju_call rfl (by decide) rfl (goes_func rfl) (fun w1 hw1 => pcall hw1 (cq (kroot_any _ bk.1 bk.2 strCl 1 w1 (hkk.keep hw1)) (congrArg Value.string (show rootK strCl 1 = fK from rfl)))) ?_
     refine juz ?_
     refine ju_call rfl (by decide) rfl (goes_func rfl) (fun w1 hw1 => pcall hw1 (cq (won_any fK fW w1 fW_fit (by decide)) (show Value.tuple #[.int .u64 (wonV fK fW), .int .i64 (wonE fK fW)] = .tuple #[.int .u64 30, .int .i64 0] by rw [f_won.1, f_won.2]))) ?_
     refine juz ?_
     refine juz ?_
     refine juz ?_
     refine juz ?_
     refine juz ?_
     refine ju_nil ?_
     refine jq_then ?_
     refine jc_seq ?_
     refine jc_world (fun _ h => h.pop) ?_
     refine jc_region ?_
     refine jz ?_
     refine jl_bcall (B := fB2) (B' := fB3) (b := b54) (ad := pf.1) (c := pf.2) (v := .int .i64 0) rfl (by decide) rfl (goes_func rfl) (fun w1 hw1 => cb (bk_gone hw1 (show BkIn _ fB2 b54 pf.1 pf.2 from ⟨(by first | exact mem0 | exact mem1 | exact mem2 | exact mem3 | exact mem4 | exact mem5), (by first | exact mem0 | exact mem1 | exact mem2 | exact mem3 | exact mem4 | exact mem5), by decide⟩) 1) (show Value.int .i64 (goneE fB2 1) = .int .i64 0 from rfl) (show goneB fB2 1 = fB3 from rfl)) (fun _ => (by first | exact rep0 | exact rep1 | exact rep2 | exact rep3 | exact rep4)) (fun _ => (by first | exact rep0 | exact rep1 | exact rep2 | exact rep3 | exact rep4)) (fun pg => ?_)
     refine jz ?_
     refine jl_bcall (B := fB3) (B' := fB3) (b := b54) (ad := pg.1) (c := pg.2) (v := .int .i64 6) rfl (by decide) rfl (goes_func rfl) (fun w1 hw1 => cb (bk_gone hw1 (show BkIn _ fB3 b54 pg.1 pg.2 from ⟨(by first | exact mem0 | exact mem1 | exact mem2 | exact mem3 | exact mem4 | exact mem5), (by first | exact mem0 | exact mem1 | exact mem2 | exact mem3 | exact mem4 | exact mem5), by decide⟩) 1) (show Value.int .i64 (goneE fB3 1) = .int .i64 6 from rfl) (show goneB fB3 1 = fB3 from rfl)) (fun _ => (by first | exact rep0 | exact rep1 | exact rep2 | exact rep3 | exact rep4)) (fun _ => (by first | exact rep0 | exact rep1 | exact rep2 | exact rep3 | exact rep4)) (fun ph => ?_)
     refine jz ?_
     refine jz ?_
     refine jnt ?_
     refine jsr ?_
     refine jz ?_
     refine jz ?_
     refine jl_bcall (B := fB3) (B' := fB3) (b := b54) (ad := ph.1) (c := ph.2) (v := .tuple #[.int .u64 0, .agg (Wn.c wn0).toArray, .bool false, .int .i64 6]) rfl (by decide) rfl (goes_func rfl) (fun w1 hw1 => cb (bk_take hw1 (show BkIn _ fB3 b54 ph.1 ph.2 from ⟨(by first | exact mem0 | exact mem1 | exact mem2 | exact mem3 | exact mem4 | exact mem5), (by first | exact mem0 | exact mem1 | exact mem2 | exact mem3 | exact mem4 | exact mem5), by decide⟩) fB3_fit fT1 (fT_fit _) (by decide) (Nat.le_trans (commit_sz _ _) (by decide)) (Nat.le_trans fsig_size (by decide))) (take_no f_take3 (by decide)).1 (take_no f_take3 (by decide)).2) (fun _ => (by first | exact rep0 | exact rep1 | exact rep2 | exact rep3 | exact rep4)) (fun _ => (by first | exact rep0 | exact rep1 | exact rep2 | exact rep3 | exact rep4)) (fun pi => ?_)
     refine jz ?_
     refine jz ?_
     refine jz ?_
     refine jz ?_
     refine jl_as (u := .bool false) rfl ?_
     refine jz ?_
     refine jl_m rfl (by decide) rfl (m_alloc) (fun b34 => ?_)
     refine jz ?_
     refine jst ?_
     refine jz ?_
     refine jz ?_
     refine jnt ?_
     refine jc_seq ?_
     refine jc_world (fun _ h => h.pop.pop) ?_
     refine jc_region ?_
     refine jz ?_
     refine jz ?_
     refine jl_bcall (B := fB3) (B' := fB1) (b := b54) (ad := pi.1) (c := pi.2) (v := .int .i64 0) rfl (by decide) rfl (goes_func rfl) (fun w1 hw1 => cb (bk_put hw1 (show BkIn _ fB3 b54 pi.1 pi.2 from ⟨(by first | exact mem0 | exact mem1 | exact mem2 | exact mem3 | exact mem4 | exact mem5), (by first | exact mem0 | exact mem1 | exact mem2 | exact mem3 | exact mem4 | exact mem5), by decide⟩) fB3_fit fO fO_fit (by decide)) (by rw [f_put1]) (show putB fB3 fO = fB1 by unfold putB; rw [if_pos f_put1]; rfl)) (fun _ => (by first | exact rep0 | exact rep1 | exact rep2 | exact rep3 | exact rep4)) (fun _ => (by first | exact rep0 | exact rep1 | exact rep2 | exact rep3 | exact rep4)) (fun pj => ?_)
     refine jz ?_
     refine jnt ?_
     refine jsr ?_
     refine jz ?_
     refine jz ?_
     refine jl_bcall (B := fB1) (B' := fB1) (b := b54) (ad := pj.1) (c := pj.2) (v := .int .i64 7) rfl (by decide) rfl (goes_func rfl) (fun w1 hw1 => cb (bk_put hw1 (show BkIn _ fB1 b54 pj.1 pj.2 from ⟨(by first | exact mem0 | exact mem1 | exact mem2 | exact mem3 | exact mem4 | exact mem5), (by first | exact mem0 | exact mem1 | exact mem2 | exact mem3 | exact mem4 | exact mem5), by decide⟩) fB1_fit fO fO_fit (by decide)) (by rw [f_put2]) (show putB fB1 fO = fB1 by unfold putB; rw [if_neg (by rw [f_put2]; decide)])) (fun _ => (by first | exact rep0 | exact rep1 | exact rep2 | exact rep3 | exact rep4)) (fun _ => (by first | exact rep0 | exact rep1 | exact rep2 | exact rep3 | exact rep4)) (fun pl => ?_)
     refine jz ?_
     refine jnt ?_
     refine jsr ?_
     refine jz ?_
     refine jpc (goes_func rfl) (fun w1 hw1 => lshown_any fO w1) ?_
     refine jl_m rfl (by decide) rfl (m_alloc) (fun b39 => ?_)
     refine jst ?_
     refine jnt ?_
     refine jc_seq ?_
     refine jc_drop [0] ?_
     refine jc_free (by kernel_rfl) Hp.stay ?_
     refine jn_y [] rfl rfl (fun w1 hw1 => And.intro rfl (y_move rfl)) ?_
     refine jn_y [0] rfl rfl (fun w1 hw1 => And.intro rfl (y_eql rfl rfl)) ?_
     refine jn_as (u := .bool true) (congrArg Value.bool (decide_eq_true rfl)) ?_
     refine jn_y [1] rfl rfl (fun w1 hw1 => And.intro rfl (y_move rfl)) ?_
     refine jn_y [2] rfl rfl (fun w1 hw1 => And.intro rfl (y_move rfl)) ?_
     refine jn_y [2, 3] rfl rfl (fun w1 hw1 => And.intro rfl (y_eql rfl rfl)) ?_
     refine jn_as (u := .bool true) (congrArg Value.bool (decide_eq_true rfl)) ?_
     refine jn_y [2, 4] rfl rfl (fun w1 hw1 => And.intro rfl (y_pick_true rfl rfl)) ?_
     refine jn_y [5] rfl rfl (fun w1 hw1 => And.intro rfl (y_move rfl)) ?_
     refine jn_y [6] rfl rfl (fun w1 hw1 => And.intro rfl (y_fieldAddr rfl)) ?_
     first | refine jn_y [6, 7] rfl rfl (fun w1 hw1 => And.intro rfl (y_load_old rfl (CellAt.of_cells (hw1.get (by first | exact mem0 | exact mem1 | exact mem2 | exact mem3 | exact mem4 | exact mem5)) rfl) (by simp))) ?_
     refine jn_y [6, 8] rfl rfl (fun w1 hw1 => And.intro rfl (y_eql rfl rfl)) ?_
     refine jn_as (u := .bool true) (congrArg Value.bool (decide_eq_true rfl)) ?_
     refine jn_y [6, 9] rfl rfl (fun w1 hw1 => And.intro rfl (y_pick_true rfl rfl)) ?_
     refine jn_y [10] rfl rfl (fun w1 hw1 => And.intro rfl (y_move rfl)) ?_
     refine jn_y [11] rfl rfl (fun w1 hw1 => And.intro rfl (y_fieldAddr rfl)) ?_
     first | refine jn_y [11, 12] rfl rfl (fun w1 hw1 => And.intro rfl (y_load_old rfl (CellAt.of_cells (hw1.get (by first | exact mem0 | exact mem1 | exact mem2 | exact mem3 | exact mem4 | exact mem5)) rfl) (by simp))) ?_
     refine jn_y [11, 13] rfl rfl (fun w1 hw1 => And.intro rfl (y_eql rfl rfl)) ?_
     refine jn_as (u := .bool true) (congrArg Value.bool (decide_eq_true rfl)) ?_
     refine jn_y [11, 14] rfl rfl (fun w1 hw1 => And.intro rfl (y_pick_true rfl rfl)) ?_
     refine jn_y [15] rfl rfl (fun w1 hw1 => And.intro rfl (y_move rfl)) ?_
     refine jn_y [16] rfl rfl (fun w1 hw1 => And.intro rfl (y_fieldAddr rfl)) ?_
     first | refine jn_y [16, 17] rfl rfl (fun w1 hw1 => And.intro rfl (y_load_old rfl (CellAt.of_cells (hw1.get (by first | exact mem0 | exact mem1 | exact mem2 | exact mem3 | exact mem4 | exact mem5)) rfl) (by simp))) ?_
     refine jn_call [16] rfl rfl (fun w1 hw1 => And.intro rfl ⟨_, _, goes_func rfl, commit_any strSalt 7 w1 (by decide) ⟨by decide, by decide⟩⟩) ?_
     refine jn_y [16, 18, 19] rfl rfl (fun w1 hw1 => And.intro rfl (y_seql rfl rfl)) ?_
     refine jn_as (u := .bool true) (congrArg Value.bool (decide_eq_true rfl)) ?_
     refine jn_y [16, 20] rfl rfl (fun w1 hw1 => And.intro rfl (y_pick_true rfl rfl)) ?_
     refine jn_y [21] rfl rfl (fun w1 hw1 => And.intro rfl (y_move rfl)) ?_
     refine jn_y [22] rfl rfl (fun w1 hw1 => And.intro rfl (y_move rfl)) ?_
     refine jn_y [22, 23] rfl rfl (fun w1 hw1 => And.intro rfl (y_eql rfl rfl)) ?_
     refine jn_as (u := .bool true) (congrArg Value.bool (decide_eq_true rfl)) ?_
     refine jn_y [22, 24] rfl rfl (fun w1 hw1 => And.intro rfl (y_pick_true rfl rfl)) ?_
     refine jn_y [25] rfl rfl (fun w1 hw1 => And.intro rfl (y_move rfl)) ?_
     refine jn_y [26] rfl rfl (fun w1 hw1 => And.intro rfl (y_move rfl)) ?_
     refine jn_y [26, 27] rfl rfl (fun w1 hw1 => And.intro rfl (y_eql rfl rfl)) ?_
     refine jn_as (u := .bool true) (congrArg Value.bool (decide_eq_true rfl)) ?_
     refine jn_y [26, 28] rfl rfl (fun w1 hw1 => And.intro rfl (y_pick_true rfl rfl)) ?_
     refine jn_y [29] rfl rfl (fun w1 hw1 => And.intro rfl (y_move rfl)) ?_
     refine jn_y [30] rfl rfl (fun w1 hw1 => And.intro rfl (y_move rfl)) ?_
     refine jn_y [30, 31] rfl rfl (fun w1 hw1 => And.intro rfl (y_eql rfl rfl)) ?_
     refine jn_as (u := .bool true) (congrArg Value.bool (decide_eq_true rfl)) ?_
     refine jn_y [30, 32] rfl rfl (fun w1 hw1 => And.intro rfl (y_pick_true rfl rfl)) ?_
     refine jn_y [33] rfl rfl (fun w1 hw1 => And.intro rfl (y_move rfl)) ?_
     refine jn_y [34] rfl rfl (fun w1 hw1 => And.intro rfl (y_move rfl)) ?_
     refine jn_y [34, 35] rfl rfl (fun w1 hw1 => And.intro rfl (y_eql rfl rfl)) ?_
     refine jn_as (u := .bool true) (congrArg Value.bool (decide_eq_true rfl)) ?_
     refine jn_y [34, 36] rfl rfl (fun w1 hw1 => And.intro rfl (y_pick_true rfl rfl)) ?_
     refine jn_y [37] rfl rfl (fun w1 hw1 => And.intro rfl (y_move rfl)) ?_
     refine jn_y [38] rfl rfl (fun w1 hw1 => And.intro rfl (y_move rfl)) ?_
     refine jn_y [38, 39] rfl rfl (fun w1 hw1 => And.intro rfl (y_eql rfl rfl)) ?_
     refine jn_as (u := .bool true) (congrArg Value.bool (decide_eq_true rfl)) ?_
     refine jn_y [38, 40] rfl rfl (fun w1 hw1 => And.intro rfl (y_pick_true rfl rfl)) ?_
     refine jn_y [41] rfl rfl (fun w1 hw1 => And.intro rfl (y_move rfl)) ?_
     refine jn_y [42] rfl rfl (fun w1 hw1 => And.intro rfl (y_move rfl)) ?_
     refine jn_as (u := .bool true) rfl ?_
     refine jn_y [42, 43] rfl rfl (fun w1 hw1 => And.intro rfl (y_pick_true rfl rfl)) ?_
     refine jn_y [44] rfl rfl (fun w1 hw1 => And.intro rfl (y_move rfl)) ?_
     refine jn_y [45] rfl rfl (fun w1 hw1 => And.intro rfl (y_move rfl)) ?_
     refine jn_y [45, 46] rfl rfl (fun w1 hw1 => And.intro rfl (y_eql rfl rfl)) ?_
     refine jn_as (u := .bool true) (congrArg Value.bool (decide_eq_true rfl)) ?_
     refine jn_y [45, 47] rfl rfl (fun w1 hw1 => And.intro rfl (y_pick_true rfl rfl)) ?_
     refine jn_y [48] rfl rfl (fun w1 hw1 => And.intro rfl (y_move rfl)) ?_
     refine jn_y [49] rfl rfl (fun w1 hw1 => And.intro rfl (y_move rfl)) ?_
     refine jn_y [49, 50] rfl rfl (fun w1 hw1 => And.intro rfl (y_eql rfl rfl)) ?_
     refine jn_as (u := .bool true) (congrArg Value.bool (decide_eq_true rfl)) ?_
     refine jn_y [49, 51] rfl rfl (fun w1 hw1 => And.intro rfl (y_pick_true rfl rfl)) ?_
     refine jn_y [52] rfl rfl (fun w1 hw1 => And.intro rfl (y_move rfl)) ?_
     refine jn_y [53] rfl rfl (fun w1 hw1 => And.intro rfl (y_move rfl)) ?_
     refine jn_y [53, 54] rfl rfl (fun w1 hw1 => And.intro rfl (y_eql rfl rfl)) ?_
     refine jn_as (u := .bool true) (congrArg Value.bool (decide_eq_true rfl)) ?_
     refine jn_y [53, 55] rfl rfl (fun w1 hw1 => And.intro rfl (y_pick_true rfl rfl)) ?_
     refine jn_y [56] rfl rfl (fun w1 hw1 => And.intro rfl (y_move rfl)) ?_
     refine jn_y [57] rfl rfl (fun w1 hw1 => And.intro rfl (y_move rfl)) ?_
     refine jn_y [57, 58] rfl rfl (fun w1 hw1 => And.intro rfl (y_eql rfl rfl)) ?_
     refine jn_as (u := .bool true) (congrArg Value.bool (decide_eq_true rfl)) ?_
     refine jn_y [57, 59] rfl rfl (fun w1 hw1 => And.intro rfl (y_pick_true rfl rfl)) ?_
     refine jn_y [60] rfl rfl (fun w1 hw1 => And.intro rfl (y_move rfl)) ?_
     refine jn_y [61] rfl rfl (fun w1 hw1 => And.intro rfl (y_move rfl)) ?_
     refine jn_y [61, 62] rfl rfl (fun w1 hw1 => And.intro rfl (y_eql rfl rfl)) ?_
     refine jn_as (u := .bool true) (congrArg Value.bool (decide_eq_true rfl)) ?_
     refine jn_y [61, 63] rfl rfl (fun w1 hw1 => And.intro rfl (y_pick_true rfl rfl)) ?_
     refine jn_y [64] rfl rfl (fun w1 hw1 => And.intro rfl (y_move rfl)) ?_
     refine jn_y [65] rfl rfl (fun w1 hw1 => And.intro rfl (y_move rfl)) ?_
     refine jn_y [65, 66] rfl rfl (fun w1 hw1 => And.intro rfl (y_eql rfl rfl)) ?_
     refine jn_as (u := .bool true) (congrArg Value.bool (decide_eq_true rfl)) ?_
     refine jn_y [65, 67] rfl rfl (fun w1 hw1 => And.intro rfl (y_pick_true rfl rfl)) ?_
     refine jn_y [68] rfl rfl (fun w1 hw1 => And.intro rfl (y_move rfl)) ?_
     refine jn_y [69] rfl rfl (fun w1 hw1 => And.intro rfl (y_move rfl)) ?_
     refine jn_y [69, 70] rfl rfl (fun w1 hw1 => And.intro rfl (y_eql rfl rfl)) ?_
     refine jn_as (u := .bool true) (congrArg Value.bool (decide_eq_true rfl)) ?_
     refine jn_y [69, 71] rfl rfl (fun w1 hw1 => And.intro rfl (y_pick_true rfl rfl)) ?_
     refine jn_y [72] rfl rfl (fun w1 hw1 => And.intro rfl (y_move rfl)) ?_
     refine jn_y [73] rfl rfl (fun w1 hw1 => And.intro rfl (y_move rfl)) ?_
     refine jn_y [73, 74] rfl rfl (fun w1 hw1 => And.intro rfl (y_eql rfl rfl)) ?_
     refine jn_as (u := .bool true) (congrArg Value.bool (decide_eq_true rfl)) ?_
     refine jn_y [73, 75] rfl rfl (fun w1 hw1 => And.intro rfl (y_pick_true rfl rfl)) ?_
     refine jn_y [76] rfl rfl (fun w1 hw1 => And.intro rfl (y_move rfl)) ?_
     refine jn_y [77] rfl rfl (fun w1 hw1 => And.intro rfl (y_move rfl)) ?_
     refine jn_y [77, 78] rfl rfl (fun w1 hw1 => And.intro rfl (y_eql rfl rfl)) ?_
     refine jn_as (u := .bool true) (congrArg Value.bool (decide_eq_true rfl)) ?_
     refine jn_y [77, 79] rfl rfl (fun w1 hw1 => And.intro rfl (y_pick_true rfl rfl)) ?_
     refine jn_y [80] rfl rfl (fun w1 hw1 => And.intro rfl (y_move rfl)) ?_
     refine jn_y [81] rfl rfl (fun w1 hw1 => And.intro rfl (y_move rfl)) ?_
     refine jn_call [81, 82] rfl rfl (fun w1 hw1 => And.intro rfl ⟨_, _, goes_func rfl, bk_next hw1 (show BkIn _ fB1 b54 pl.1 pl.2 from ⟨(by first | exact mem0 | exact mem1 | exact mem2 | exact mem3 | exact mem4 | exact mem5), (by first | exact mem0 | exact mem1 | exact mem2 | exact mem3 | exact mem4 | exact mem5), by decide⟩)⟩) ?_
     refine jn_y [81, 83] rfl rfl (fun w1 hw1 => And.intro rfl (y_eql rfl rfl)) ?_
     refine jn_as (u := .bool true) (congrArg Value.bool (decide_eq_true rfl)) ?_
     refine jn_y [81, 84] rfl rfl (fun w1 hw1 => And.intro rfl (y_pick_true rfl rfl)) ?_
     refine jn_y [85] rfl rfl (fun w1 hw1 => And.intro rfl (y_move rfl)) ?_
     refine jn_y [86] rfl rfl (fun w1 hw1 => And.intro rfl (y_move rfl)) ?_
     refine jn_fcall [86, 87] rfl rfl (fun w1 hw1 => And.intro rfl ⟨_, _, goes_func rfl, bk_offers hw1 (show BkIn _ fB1 b54 pl.1 pl.2 from ⟨(by first | exact mem0 | exact mem1 | exact mem2 | exact mem3 | exact mem4 | exact mem5), (by first | exact mem0 | exact mem1 | exact mem2 | exact mem3 | exact mem4 | exact mem5), by decide⟩)⟩) ?_
     refine jn_y [86, 88] rfl rfl (fun w1 hw1 b236 h236 => And.intro rfl (y_len_slice rfl)) ?_
     refine jn_y [86, 89] rfl rfl (fun w1 hw1 => And.intro rfl (y_eql rfl rfl)) ?_
     refine jn_as (u := .bool true) (congrArg Value.bool (decide_eq_true rfl)) ?_
     refine jn_y [86, 90] rfl rfl (fun w1 hw1 => And.intro rfl (y_pick_true rfl rfl)) ?_
     refine jn_y [91] rfl rfl (fun w1 hw1 => And.intro rfl (y_move rfl)) ?_
     refine jn_y [92] rfl rfl (fun w1 hw1 => And.intro rfl (y_fieldAddr rfl)) ?_
     first | refine jn_y [92, 93] rfl rfl (fun w1 hw1 => And.intro rfl (y_load_old rfl (CellAt.of_cells (hw1.get (by first | exact mem0 | exact mem1 | exact mem2 | exact mem3 | exact mem4 | exact mem5)) rfl) (by simp))) ?_
     refine jn_y [92, 94] rfl rfl (fun w1 hw1 => And.intro rfl (y_seql rfl rfl)) ?_
     refine jn_as (u := .bool true) (congrArg Value.bool (decide_eq_true rfl)) ?_
     refine jn_y [92, 95] rfl rfl (fun w1 hw1 => And.intro rfl (y_pick_true rfl rfl)) ?_
     refine jn_y [96] rfl rfl (fun w1 hw1 => And.intro rfl (y_move rfl)) ?_
     refine jn_y [97] rfl rfl (fun w1 hw1 => And.intro rfl (y_fieldAddr rfl)) ?_
     first | refine jn_y [97, 98] rfl rfl (fun w1 hw1 => And.intro rfl (y_load_old rfl (CellAt.of_cells (hw1.get (by first | exact mem0 | exact mem1 | exact mem2 | exact mem3 | exact mem4 | exact mem5)) rfl) (by simp))) ?_
     refine jn_y [97, 99] rfl rfl (fun w1 hw1 => And.intro rfl (y_eql rfl rfl)) ?_
     refine jn_as (u := .bool true) (congrArg Value.bool (decide_eq_true rfl)) ?_
     refine jn_y [97, 100] rfl rfl (fun w1 hw1 => And.intro rfl (y_pick_true rfl rfl)) ?_
     refine jn_y [101] rfl rfl (fun w1 hw1 => And.intro rfl (y_move rfl)) ?_
     refine jn_y [102] rfl rfl (fun w1 hw1 => And.intro rfl (y_fieldAddr rfl)) ?_
     first | refine jn_y [102, 103] rfl rfl (fun w1 hw1 => And.intro rfl (y_load_old rfl (CellAt.of_cells (hw1.get (by first | exact mem0 | exact mem1 | exact mem2 | exact mem3 | exact mem4 | exact mem5)) rfl) (by simp))) ?_
     refine jn_y [102] rfl rfl (fun w1 hw1 => And.intro rfl (y_fieldAddr rfl)) ?_
     first | refine jn_y [102, 105] rfl rfl (fun w1 hw1 => And.intro rfl (y_load_old rfl (CellAt.of_cells (hw1.get (by first | exact mem0 | exact mem1 | exact mem2 | exact mem3 | exact mem4 | exact mem5)) rfl) (by simp))) ?_
     refine jn_y [102, 104, 106] rfl rfl (fun w1 hw1 => And.intro rfl (y_seql rfl rfl)) ?_
     refine jn_as (u := .bool true) (congrArg Value.bool (decide_eq_true rfl)) ?_
     refine jn_y [102, 107] rfl rfl (fun w1 hw1 => And.intro rfl (y_pick_true rfl rfl)) ?_
     refine jn_y [108] rfl rfl (fun w1 hw1 => And.intro rfl (y_assign rfl)) ?_
     refine jn_nil [109] (by decide) (fun w1 hw1 => jq_at hw1 ?_)
     refine jq_then ?_
     refine jc_ret ?_
     refine jq_ret1 rfl rfl ?_
     exact fun _ hw => ⟨rfl, (hallk.next hw (by repeat first | exact ⟨_, mem0, rfl⟩ | exact ⟨_, mem1, rfl⟩ | exact ⟨_, mem2, rfl⟩ | refine List.forall_mem_cons.2 ⟨?_, ?_⟩ | exact fun _ h => absurd h List.not_mem_nil)).ch⟩
     )
   )

end Go.Proofs.Ytghomncegjamfaa
