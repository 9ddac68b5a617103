/- The walks of coin.Copy and of CoinPuts. Written by program (walk.py) out of a table of contracts and invariants. -/
import Derived.Test.YtamlleachfngeaaGreatRp
import Derived.Test.YtamlleachfngeaaGreatMrtb
import Derived.Test.YtamlleachfngeaaGreatMrtd
import Derived.Test.YtamlleachfngeaaGreatCj
namespace Go.Proofs.YtamlleachfngeaaGreat
open Go.RowKit
set_option maxRecDepth 100000
set_option maxHeartbeats 4000000
set_option linter.unusedVariables false
set_option linter.unusedSimpArgs false
theorem core_ne {t : Trx} (h : txRight t = true) : ¬ txCore t = ⟨#[]⟩ := by
  obtain ⟨h1, _, h3, h4, h5, _⟩ := txRight_iff.1 h
  unfold txCore txPut txIns
  rw [if_pos h, wByte_add (n := 67) (by omega), wByte_add (n := (t.ins.length : Int)) (by omega), wFold_add (f := putIn) (g := inBy) (fun w x hx => putIn_add (h1 x hx)), wByte_add (n := (t.outs.length : Int)) (by omega), wFold_add (f := putOu) (g := ouBy) (fun w x hx => putOu_add (h5 x hx))]
  simp only [wAdd_app]
  rw [wText_add rfl]
  intro e
  have := congrArg ByteArray.size e
  simp only [ByteArray.size_append, oneB_size] at this
  have h0 : (⟨#[]⟩ : ByteArray).size = 0 := rfl
  omega

theorem r1sum_any (ad : Option Addr) (c : Nat) (l : List Int) (w : World) (hf : ∀ n ∈ l, fits .u64 n) (hl : l.length ≤ 1000000000) (hL : Ints w ad .u64 l) :
  Calls Tryz.prog 28 #[.slice ad l.length c] w fun e w' => e = .returned (.tuple #[.int .u64 (sumA l), .int .i64 (sumE l)]) ∧ Ch [] w w' := by
 refine calls_of (n := 27) (E := [(0, .slice ad l.length c)]) (W := Hp w [] []) Tryz.func28 rfl rfl (Nat.le_of_ble_eq_true rfl) rfl (Hp.nil _ _) ?_
 refine jsr ?_
 refine jz ?_
 refine jz ?_
 refine jnt ?_
 refine jsr ?_
 refine jz ?_
 refine jnt ?_
 refine jc_seq ?_
 refine jsr ?_
 refine jz ?_
 refine jnt ?_
 refine jc_block ?_
 refine jc_loop (fun (i : Nat) => [(0, .slice ad l.length c), (4, .int .u64 (l.take i).sum), (5, .int .i64 (i : Nat))]) (fun (i : Nat) => fun w' => (i ≤ l.length ∧ (l.take i).sum < 18446744073709551616) ∧ Hp w [] [] w') (fun (i : Nat) => l.length - i) 0 ?_ ?_ ?_
 ·exact ⟨rfl, rfl, rfl, trivial⟩
 ·exact fun _ h => ⟨⟨by omega, by simp⟩, h⟩
 ·intro i
  refine jc_and (fun hi => ?_)
  refine jc_seq ?_
  refine jsr ?_
  refine jz ?_
  refine jz ?_
  refine jy (y_len_slice rfl) ?_
  refine jy (y_lss rfl rfl) ?_
  refine jl_prop (fun h9 => ?_) (fun h9 => ?_)
  ·first
   | (exfalso; omega)
   | (
    have hlt : i < l.length := by omega
    obtain ⟨bb, oo, ea, hc⟩ := hL i hlt
    subst ea
    have hfn := hf _ (List.getElem_mem hlt)
    simp only [fits] at hfn
    have hst := sum_take hlt
    have hpp := sum_part hf (i + 1)
    have hp0 := sum_part hf i
    generalize hxe : l[i]'hlt = n at *
    refine jnt ?_
    refine jc_true rfl ?_
    refine jc_skip ?_
    refine jq_then ?_
    refine jc_seq ?_
    refine jc_block ?_
    refine jc_seq ?_
    refine jc_seq ?_
    refine jc_draw (by kernel_rfl) (fun _ h => h.drew) ?_
    refine juz ?_
    refine juz ?_
    refine juy (y_indexAddr_slice (off := oo + i) rfl rfl (by omega) (by omega) (by omega)) ?_
    refine juy (y_load_old rfl hc (by simp)) ?_
    refine ju_call rfl (by decide) rfl (goes_func rfl) (fun w1 hw1 => pcall hw1 (rtop_any w1)) ?_
    refine juz ?_
    refine juy (y_sub_u64 rfl rfl) ?_
    refine ju_as (u := .int .u64 (18446744073709551615 - (l.take i).sum)) (congrArg (Value.int .u64) (by omega)) ?_
    refine juy (y_gtr rfl rfl) ?_
    refine ju_prop (fun h19 => ?_) (fun h19 => ?_)
    ·first
     | (exfalso; omega)
     | (
      refine ju_nil ?_
      refine jq_then ?_
      refine jc_true rfl ?_
      refine jsr ?_
      refine jz ?_
      refine jz ?_
      refine jnt ?_
      refine jc_ret ?_
      refine jq_then_ret ?_
      refine jq_block_ret ?_
      refine jq_then_ret ?_
      refine jq_then_ret ?_
      refine jq_block_ret ?_
      refine jq_then_ret ?_
      refine jq_ret2 rfl rfl rfl ?_
      exact fun _ hw => ⟨by have : 18446744073709551616 ≤ l.sum := (by omega); unfold sumA sumE; rw [if_pos this, if_pos this], hw.ch⟩
      )
    ·first
     | (exfalso; omega)
     | (
      refine ju_nil ?_
      refine jq_then ?_
      refine jc_false rfl ?_
      refine jc_skip ?_
      refine jq_then ?_
      refine jc_region ?_
      refine jz ?_
      refine jz ?_
      refine jz ?_
      refine jy (y_indexAddr_slice (off := oo + i) rfl rfl (by omega) (by omega) (by omega)) ?_
      refine jy (y_load_old rfl hc (by simp)) ?_
      refine jy (y_add_u64 rfl rfl) ?_
      refine jl_as (u := .int .u64 (l.take (i + 1)).sum) (congrArg (Value.int .u64) (by omega)) ?_
      refine jz ?_
      refine jl_nil ?_
      refine jq_block ?_
      refine jq_then ?_
      refine jc_region ?_
      refine jz ?_
      refine jy (y_add_fits rfl rfl (by simp only [fits]; omega)) ?_
      refine jz ?_
      refine jl_nil ?_
      refine jq_round (i := i) (i + 1) ?_ ?_ ?_
      ·omega
      ·exact ⟨rfl, rfl, lk_int rfl (by omega), trivial⟩
      ·exact fun _ h => ⟨⟨by omega, by omega⟩, h⟩
      )
    )
  ·first
   | (exfalso; omega)
   | (
    refine jnt ?_
    refine jc_false rfl ?_
    refine jc_exit ?_
    refine jq_then_exit ?_
    refine jq_then_exit ?_
    refine jq_hit ?_
    refine jq_then ?_
    refine jsr ?_
    refine jz ?_
    refine jz ?_
    refine jz ?_
    refine jnt ?_
    refine jc_ret ?_
    refine jq_ret2 rfl rfl rfl ?_
    exact fun _ hw => ⟨by have h1 := hi.2; rw [List.take_of_length_le (by omega)] at h1 ⊢; unfold sumA sumE; rw [if_neg (by omega), if_neg (by omega)], hw.ch⟩
    )

theorem rwhole_any (ad : Option Addr) (c : Nat) (l : List Oup) (w : World) (hf : ∀ o ∈ l, o.Fit) (hl : l.length ≤ 1000000) (hE : ElAt w ad 9 (l.map Oup.c)) :
  Calls Tryz.prog 6 #[.slice ad l.length c] w fun e w' => e = .returned (.tuple #[.int .u64 (sumA (l.map Oup.amount)), .int .i64 (sumE (l.map Oup.amount))]) ∧ Ch [] w w' := by
 refine calls_of (n := 25) (E := [(0, .slice ad l.length c)]) (W := Hp w [] []) Tryz.func6 rfl rfl (Nat.le_of_ble_eq_true rfl) rfl (Hp.nil _ _) ?_
 refine jsr ?_
 refine jz ?_
 refine jz ?_
 refine jnt ?_
 refine jsr ?_
 refine jl_m rfl (by decide) rfl (m_buildSlice (by decide) Built.nil) (fun b6 => ?_)
 refine jz ?_
 refine jnt ?_
 refine jc_seq ?_
 refine jsr ?_
 refine jz ?_
 refine jnt ?_
 refine jc_block ?_
 refine jc_loop3 (fun (i : Nat) (au : Option Addr) (cu : Nat) => [(0, .slice ad l.length c), (4, .slice au i cu), (5, .int .i64 (i : Nat))]) (fun (i : Nat) (au : Option Addr) (cu : Nat) => fun w' => i ≤ l.length ∧ Hp w [] [.row au i cu 24 1 (((l.take i).map Oup.amount).map (Value.int .u64))] w') (fun (i : Nat) (au : Option Addr) (cu : Nat) => l.length - i) 0 (some ⟨b6, 0, none⟩) 0 ?_ ?_ ?_
 ·exact ⟨rfl, rfl, rfl, trivial⟩
 ·exact fun _ h => ⟨by omega, h⟩
 ·intro i au cu
  refine jc_and (fun hi => ?_)
  refine jc_seq ?_
  refine jsr ?_
  refine jz ?_
  refine jz ?_
  refine jy (y_len_slice rfl) ?_
  refine jy (y_lss rfl rfl) ?_
  refine jl_prop (fun h10 => ?_) (fun h10 => ?_)
  ·first
   | (exfalso; omega)
   | (
    have hlt : i < l.length := by omega
    obtain ⟨bb, oo, ea, hold⟩ := hE.get hlt
    subst ea
    generalize hxe : l[i]'hlt = x at *
    refine jnt ?_
    refine jc_true rfl ?_
    refine jc_skip ?_
    refine jq_then ?_
    refine jc_seq ?_
    refine jc_block ?_
    refine jc_region ?_
    refine jz ?_
    refine jz ?_
    refine jz ?_
    refine jy (y_indexAddr_slice (off := oo + i * 9) rfl rfl (by omega) (by omega) (by omega)) ?_
    refine jz ?_
    refine jy (y_load_old rfl (hold 1 _ rfl) (by simp)) ?_
    refine jl_m rfl (by decide) rfl (m_buildSlice (by decide) (Built.cell rfl rfl rfl (by repeat constructor) Built.nil)) (fun b19 => ?_)
    refine jl_m2 rfl (by decide) rfl (m_append rfl rfl (by first | exact del0 | exact del1 | exact del2 | exact del3 | exact del4) (by first | exact del0 | exact del1 | exact del2 | exact del3 | exact del4) rfl (by omega) (by omega)) (fun a20 c20 => ?_)
    refine jz ?_
    refine jl_nil ?_
    refine jq_block ?_
    refine jq_then ?_
    refine jc_region ?_
    refine jz ?_
    refine jy (y_add_fits rfl rfl (by simp only [fits]; omega)) ?_
    refine jz ?_
    refine jl_nil ?_
    refine jq_round3 (i := i) (j := au) (l := cu) (i + 1) a20 c20 ?_ ?_ ?_
    ·omega
    ·exact ⟨rfl, rfl, lk_int rfl (by omega), trivial⟩
    ·exact fun _ h => ⟨by omega, h.cast (by rw [List.take_succ_eq_append_getElem hlt, List.map_append, List.map_append, hxe]; rfl)⟩
    )
  ·first
   | (exfalso; omega)
   | (
    refine jnt ?_
    refine jc_false rfl ?_
    refine jc_exit ?_
    refine jq_then_exit ?_
    refine jq_then_exit ?_
    refine jq_hit ?_
    refine jq_then ?_
    refine jc_seq ?_
    have hie : i = l.length := by omega
    refine jc_world (fun _ h => h.cast (H' := [.row au (l.map Oup.amount).length cu 24 1 ((l.map Oup.amount).map (Value.int .u64))]) (by rw [hie, List.take_length, List.length_map])) ?_
    refine jc_region ?_
    refine jz ?_
    refine jl_as (u := .slice au (l.map Oup.amount).length cu) (by rw [hie, List.length_map]) ?_
    refine jpc (goes_func rfl) (fun w1 hw1 => r1sum_any au cu (l.map Oup.amount) w1 (fun n hn => by obtain ⟨o, ho, rfl⟩ := List.mem_map.1 hn; exact (hf o ho).amount) (by rw [List.length_map]; omega) (Ints.of_row rfl (hw1.get mem0))) ?_
    refine jz ?_
    refine jz ?_
    refine jz ?_
    refine jz ?_
    refine jnt ?_
    refine jc_ret ?_
    refine jq_ret2 rfl rfl rfl ?_
    exact fun _ hw => ⟨rfl, hw.ch⟩
    )

theorem renc_any (p : Pf) (ad : Option Addr) (c : Nat) (w : World) (hE : ElAt w ad 10 (p.wins.map Wn.c)) (hf : p.Fit) (hl : p.wins.length ≤ 1000000000) :
  Calls Tryz.prog 56 #[.agg (Pf.c p ad c).toArray] w fun e w' => e = .returned (.string (pfEnc p)) ∧ Ch [] w w' := by
 refine calls_of (n := 91) (E := [(0, .agg (Pf.c p ad c).toArray)]) (W := Hp w [] []) Tryz.func56 rfl rfl (Nat.le_of_ble_eq_true rfl) rfl (Hp.nil _ _) ?_
 refine jsr ?_
 refine jl_m rfl (by decide) rfl (m_box rfl rfl) (fun b1 => ?_)
 refine jz ?_
 refine jnt ?_
 refine jc_seq ?_
 refine jsr ?_
 refine jz ?_
 refine jpc (goes_func rfl) (fun w1 hw1 => rright_any p ad c w1 (hE.keep hw1) hl) ?_
 refine jl_bool (fun h7 => ?_) (fun h7 => ?_)
 ·skip
  have hrb : pfRight p = true := by assumption
  have hr := pfRight_iff.1 hrb
  have hr2 := hr.2.1
  have hr3 := hr.2.2.1
  have hr4 := hr.2.2.2
  refine jz ?_
  refine jnt ?_
  refine jc_false rfl ?_
  refine jc_skip ?_
  refine jq_then ?_
  refine jsr ?_
  refine jy (y_build Built.nil) ?_
  refine jl_m rfl (by decide) rfl (m_box rfl rfl) (fun b10 => ?_)
  refine jz ?_
  refine jnt ?_
  refine jsr ?_
  refine jz ?_
  refine jz ?_
  refine jz ?_
  refine juc (goes_func rfl) (fun w1 hw1 => rwnum_any b10 (w0) (p.amount) hf.amount w1 (wz) hw1) ?_
  refine jnt ?_
  refine jsr ?_
  refine jz ?_
  refine jz ?_
  refine jz ?_
  refine juc (goes_func rfl) (fun w1 hw1 => rwblob_any b10 (wNum (w0) (p.amount)) (p.sig) (by omega) w1 (wz) hw1) ?_
  refine jnt ?_
  refine jsr ?_
  refine jz ?_
  refine jz ?_
  refine jz ?_
  refine juc (goes_func rfl) (fun w1 hw1 => rwblob_any b10 (wBlob (wNum (w0) (p.amount)) (p.sig)) (p.token) (by omega) w1 (wz) hw1) ?_
  refine jnt ?_
  refine jsr ?_
  refine jz ?_
  refine jz ?_
  refine jz ?_
  refine jy (y_len_slice rfl) ?_
  refine juc (goes_func rfl) (fun w1 hw1 => rwbyte_any b10 (wBlob (wBlob (wNum (w0) (p.amount)) (p.sig)) (p.token)) (((p.wins.length : Nat) : Int)) (by simp only [fits]; omega) w1 (wz) hw1) ?_
  refine jnt ?_
  refine jc_seq ?_
  refine jsr ?_
  refine jz ?_
  refine jnt ?_
  refine jc_block ?_
  refine jc_loop (fun (i : Nat) => [(1, .pointer (some ⟨b1, 0, none⟩)), (3, .pointer (some ⟨b10, 0, none⟩)), (4, .int .i64 (i : Nat))]) (fun (i : Nat) => fun w' => i ≤ p.wins.length ∧ Hp w [] [.cells b10 [.string ((wWins (pfHead p) (p.wins.take i))).1, .int .i64 ((wWins (pfHead p) (p.wins.take i))).2], .cells b1 (Pf.c p ad c)] w') (fun (i : Nat) => p.wins.length - i) 0 ?_ ?_ ?_
  ·exact ⟨rfl, rfl, rfl, trivial⟩
  ·exact fun _ h => ⟨by omega, h⟩
  ·intro i
   refine jc_and (fun hi => ?_)
   refine jc_seq ?_
   refine jsr ?_
   refine jz ?_
   refine jz ?_
   refine jz ?_
   refine jy (y_len_slice rfl) ?_
   refine jy (y_lss rfl rfl) ?_
   refine jl_prop (fun h32 => ?_) (fun h32 => ?_)
   ·first
    | (exfalso; omega)
    | (
     have hlt : i < p.wins.length := by omega
     have hfx := hf.wins _ (List.getElem_mem hlt)
     have hrx := wnMay_iff.1 (hr.1 _ (List.getElem_mem hlt))
     obtain ⟨bb, oo, ea, hold⟩ := hE.get hlt
     subst ea
     generalize hxe : p.wins[i]'hlt = x at *
     have hzs := wle_wins (l := p.wins.take i) (x := pfHead p) (a := 0) (K := 100000) (by have := pfHead_size p; rw [List.length_take]; omega)
     generalize hz : wWins (pfHead p) (p.wins.take i) = z at *
     refine jnt ?_
     refine jc_true rfl ?_
     refine jc_skip ?_
     refine jq_then ?_
     refine jc_seq ?_
     refine jc_block ?_
     refine jsr ?_
     refine jz ?_
     refine jz ?_
     refine jz ?_
     refine jy (y_indexAddr_slice (off := oo + i * 10) rfl rfl (by omega) (by omega) (by omega)) ?_
     refine jz ?_
     refine jy (y_loadAgg_old rfl rfl (hold.take 8) (by simp)) ?_
     refine jl_m rfl (by decide) rfl (m_alloc) (fun b5 => ?_)
     refine jst ?_
     refine jnt ?_
     refine jsr ?_
     refine jz ?_
     refine jz ?_
     refine jz ?_
     refine juc (goes_func rfl) (fun w1 hw1 => rwhash_any b10 (z) (x.t.chan) (by omega) w1 (wz) hw1) ?_
     refine jnt ?_
     refine jsr ?_
     refine jz ?_
     refine jz ?_
     refine jz ?_
     refine juc (goes_func rfl) (fun w1 hw1 => rwnum_any b10 (wHash (z) (x.t.chan)) (x.t.serial) hfx.t.serial w1 (wz) hw1) ?_
     refine jnt ?_
     refine jsr ?_
     refine jz ?_
     refine jz ?_
     refine jz ?_
     refine juc (goes_func rfl) (fun w1 hw1 => rwnum_any b10 (wNum (wHash (z) (x.t.chan)) (x.t.serial)) (x.t.face) hfx.t.face w1 (wz) hw1) ?_
     refine jnt ?_
     refine jsr ?_
     refine jz ?_
     refine jz ?_
     refine jz ?_
     refine juc (goes_func rfl) (fun w1 hw1 => rwnum_any b10 (wNum (wNum (wHash (z) (x.t.chan)) (x.t.serial)) (x.t.face)) (x.t.wins) hfx.t.wins w1 (wz) hw1) ?_
     refine jnt ?_
     refine jsr ?_
     refine jz ?_
     refine jz ?_
     refine jz ?_
     refine juc (goes_func rfl) (fun w1 hw1 => rwnum_any b10 (wNum (wNum (wNum (wHash (z) (x.t.chan)) (x.t.serial)) (x.t.face)) (x.t.wins)) (x.t.many) hfx.t.many w1 (wz) hw1) ?_
     refine jnt ?_
     refine jsr ?_
     refine jz ?_
     refine jz ?_
     refine jz ?_
     refine juc (goes_func rfl) (fun w1 hw1 => rwhash_any b10 (wNum (wNum (wNum (wNum (wHash (z) (x.t.chan)) (x.t.serial)) (x.t.face)) (x.t.wins)) (x.t.many)) (x.t.commit) (by omega) w1 (wz) hw1) ?_
     refine jnt ?_
     refine jsr ?_
     refine jz ?_
     refine jz ?_
     refine jz ?_
     refine juc (goes_func rfl) (fun w1 hw1 => rwnum_any b10 (wHash (wNum (wNum (wNum (wNum (wHash (z) (x.t.chan)) (x.t.serial)) (x.t.face)) (x.t.wins)) (x.t.many)) (x.t.commit)) (x.t.client) hfx.t.client w1 (wz) hw1) ?_
     refine jnt ?_
     refine jsr ?_
     refine jz ?_
     refine jz ?_
     refine jz ?_
     refine juc (goes_func rfl) (fun w1 hw1 => rwblob_any b10 (wNum (wHash (wNum (wNum (wNum (wNum (wHash (z) (x.t.chan)) (x.t.serial)) (x.t.face)) (x.t.wins)) (x.t.many)) (x.t.commit)) (x.t.client)) (x.t.sig) (by omega) w1 (wz) hw1) ?_
     refine jnt ?_
     refine jsr ?_
     refine jz ?_
     refine jz ?_
     refine jz ?_
     refine jz ?_
     refine jy (y_indexAddr_slice (off := oo + i * 10) rfl rfl (by omega) (by omega) (by omega)) ?_
     refine jz ?_
     refine jy (y_load_old rfl (hold 8 _ rfl) (by simp)) ?_
     refine juc (goes_func rfl) (fun w1 hw1 => rwblob_any b10 (wBlob (wNum (wHash (wNum (wNum (wNum (wNum (wHash (z) (x.t.chan)) (x.t.serial)) (x.t.face)) (x.t.wins)) (x.t.many)) (x.t.commit)) (x.t.client)) (x.t.sig)) (x.salt) (by omega) w1 (wz) hw1) ?_
     refine jnt ?_
     refine jc_region ?_
     refine jz ?_
     refine jz ?_
     refine jz ?_
     refine jz ?_
     refine jy (y_indexAddr_slice (off := oo + i * 10) rfl rfl (by omega) (by omega) (by omega)) ?_
     refine jz ?_
     refine jy (y_load_old rfl (hold 9 _ rfl) (by simp)) ?_
     refine juc (goes_func rfl) (fun w1 hw1 => rwnum_any b10 (wBlob (wBlob (wNum (wHash (wNum (wNum (wNum (wNum (wHash (z) (x.t.chan)) (x.t.serial)) (x.t.face)) (x.t.wins)) (x.t.many)) (x.t.commit)) (x.t.client)) (x.t.sig)) (x.salt)) (x.drawn) hfx.drawn w1 (wz) hw1) ?_
     refine jl_nil ?_
     refine jq_block ?_
     refine jq_then ?_
     refine jc_region ?_
     refine jz ?_
     refine jy (y_add_fits rfl rfl (by simp only [fits]; omega)) ?_
     refine jz ?_
     refine jl_nil ?_
     refine jq_round (i := i) (i + 1) ?_ ?_ ?_
     ·omega
     ·exact ⟨rfl, rfl, lk_int rfl (by omega), trivial⟩
     ·exact fun _ h => ⟨by omega, h.pop.cast (by rw [wWins_take hlt, hxe, hz]; rfl)⟩
     )
   ·first
    | (exfalso; omega)
    | (
     refine jnt ?_
     refine jc_false rfl ?_
     refine jc_exit ?_
     refine jq_then_exit ?_
     refine jq_then_exit ?_
     refine jq_hit ?_
     refine jq_then ?_
     refine jsr ?_
     refine jz ?_
     refine jpc (goes_func rfl) (fun w1 hw1 => rwtext_any b10 (wWins (pfHead p) (p.wins.take i)) w1 (CellAt.of_cells (hw1.get (A := .cells b10 [.string (wWins (pfHead p) (p.wins.take i)).1, .int .i64 (wWins (pfHead p) (p.wins.take i)).2]) mem0) rfl) (CellAt.of_cells (hw1.get (A := .cells b10 [.string (wWins (pfHead p) (p.wins.take i)).1, .int .i64 (wWins (pfHead p) (p.wins.take i)).2]) mem0) rfl)) ?_
     refine jz ?_
     refine jnt ?_
     refine jc_ret ?_
     refine jq_ret1 rfl rfl ?_
     exact fun _ hw => ⟨by unfold pfEnc pfPut; rw [if_pos hrb, List.take_of_length_le (by omega)], hw.ch⟩
     )
 ·skip
  refine jz ?_
  refine jnt ?_
  refine jc_true rfl ?_
  refine jsr ?_
  refine jz ?_
  refine jnt ?_
  refine jc_ret ?_
  refine jq_then_ret ?_
  refine jq_ret1 rfl rfl ?_
  exact fun _ hw => ⟨by unfold pfEnc; rw [if_neg (by simp_all)], hw.ch⟩

theorem rtxcore_any (t : Trx) (a1 : Option Addr) (c1 : Nat) (a2 : Option Addr) (c2 : Nat) (a3 : Option Addr) (c3 : Nat) (w : World) (hf : t.Fit) (h1 : ElAt w a1 4 (t.ins.map Inp.c)) (h2 : ElAt w a2 9 (t.outs.map Oup.c)) (h3 : ElAt w a3 10 (t.pf.wins.map Wn.c)) (l1 : t.ins.length ≤ 1000000000) (l2 : t.outs.length ≤ 1000000000) (l3 : t.pf.wins.length ≤ 1000000000) :
  Calls Tryz.prog 16 #[.agg (Trx.c t a1 c1 a2 c2 a3 c3).toArray] w fun e w' => e = .returned (.string (txCore t)) ∧ Ch [] w w' := by
 refine calls_of (n := 118) (E := [(0, .agg (Trx.c t a1 c1 a2 c2 a3 c3).toArray)]) (W := Hp w [] []) Tryz.func16 rfl rfl (Nat.le_of_ble_eq_true rfl) rfl (Hp.nil _ _) ?_
 refine jsr ?_
 refine jl_m rfl (by decide) rfl (m_box rfl rfl) (fun b1 => ?_)
 refine jz ?_
 refine jnt ?_
 refine jc_seq ?_
 refine jsr ?_
 refine jz ?_
 refine jpc (goes_func rfl) (fun w1 hw1 => rtxright_any t a1 c1 a2 c2 a3 c3 w1 hf (h1.keep hw1) (h2.keep hw1) (h3.keep hw1) l1 l2 l3) ?_
 refine jl_bool (fun h8 => ?_) (fun h8 => ?_)
 ·skip
  have hrb : txRight t = true := by assumption
  obtain ⟨r1, r2, r3, r4, r5, r6⟩ := txRight_iff.1 hrb
  refine jz ?_
  refine jnt ?_
  refine jc_false rfl ?_
  refine jc_skip ?_
  refine jq_then ?_
  refine jsr ?_
  refine jy (y_build Built.nil) ?_
  refine jl_m rfl (by decide) rfl (m_box rfl rfl) (fun b11 => ?_)
  refine jz ?_
  refine jnt ?_
  refine jsr ?_
  refine jz ?_
  refine juc (goes_func rfl) (fun w1 hw1 => rwbyte_any b11 (w0) (67) (by simp only [fits]; decide) w1 (wz) hw1) ?_
  refine jnt ?_
  refine jsr ?_
  refine jz ?_
  refine jz ?_
  refine jz ?_
  refine jy (y_len_slice rfl) ?_
  refine juc (goes_func rfl) (fun w1 hw1 => rwbyte_any b11 (wByte (w0) (67)) (((t.ins.length : Nat) : Int)) (by simp only [fits]; omega) w1 (wz) hw1) ?_
  refine jnt ?_
  refine jc_seq ?_
  refine jsr ?_
  refine jz ?_
  refine jnt ?_
  refine jc_block ?_
  refine jc_loop (fun (i : Nat) => [(1, .pointer (some ⟨b1, 0, none⟩)), (3, .pointer (some ⟨b11, 0, none⟩)), (4, .int .i64 (i : Nat))]) (fun (i : Nat) => fun w' => i ≤ t.ins.length ∧ Hp w [] [.cells b11 [.string ((t.ins.take i).foldl putIn (wByte (wByte w0 67) t.ins.length)).1, .int .i64 ((t.ins.take i).foldl putIn (wByte (wByte w0 67) t.ins.length)).2], .cells b1 (Trx.c t a1 c1 a2 c2 a3 c3)] w') (fun (i : Nat) => t.ins.length - i) 0 ?_ ?_ ?_
  ·exact ⟨rfl, rfl, rfl, trivial⟩
  ·exact fun _ h => ⟨by omega, h⟩
  ·intro i
   refine jc_and (fun hi => ?_)
   refine jc_seq ?_
   refine jsr ?_
   refine jz ?_
   refine jz ?_
   refine jz ?_
   refine jy (y_len_slice rfl) ?_
   refine jy (y_lss rfl rfl) ?_
   refine jl_prop (fun h23 => ?_) (fun h23 => ?_)
   ·first
    | (exfalso; omega)
    | (
     have hlt : i < t.ins.length := by omega
     have hfx := hf.ins _ (List.getElem_mem hlt)
     have hrx := r1 _ (List.getElem_mem hlt)
     obtain ⟨bb, oo, ea, hold⟩ := h1.get hlt
     subst ea
     generalize hxe : t.ins[i]'hlt = x at *
     have hrx2 := inFits_iff.1 hrx
     have hzs := wle_fold (f := putIn) (n := 18) (fun w x a K h => wle_in h) (t.ins.take i) (w := wByte (wByte w0 67) t.ins.length) (a := 0) (K := 1000) (by rw [List.length_take]; apply wle_byte; apply wle_byte; have hw00 : w0.1.size = 0 := rfl; omega)
     generalize hz : (t.ins.take i).foldl putIn (wByte (wByte w0 67) t.ins.length) = z at *
     refine jnt ?_
     refine jc_true rfl ?_
     refine jc_skip ?_
     refine jq_then ?_
     refine jc_seq ?_
     refine jc_block ?_
     refine jsr ?_
     refine jz ?_
     refine jz ?_
     refine jz ?_
     refine jz ?_
     refine jy (y_indexAddr_slice (off := oo + i * 4) rfl rfl (by omega) (by omega) (by omega)) ?_
     refine jz ?_
     refine jz ?_
     refine jy (y_load_old rfl (hold 0 _ rfl) (by simp)) ?_
     refine juc (goes_func rfl) (fun w1 hw1 => rwhash_any b11 (z) (x.pt.tx) (by omega) w1 (wz) hw1) ?_
     refine jnt ?_
     refine jsr ?_
     refine jz ?_
     refine jz ?_
     refine jz ?_
     refine jz ?_
     refine jy (y_indexAddr_slice (off := oo + i * 4) rfl rfl (by omega) (by omega) (by omega)) ?_
     refine jz ?_
     refine jz ?_
     refine jy (y_load_old rfl (hold 1 _ rfl) (by simp)) ?_
     refine juc (goes_func rfl) (fun w1 hw1 => rwbyte_any b11 (wHash (z) (x.pt.tx)) (x.pt.out) hfx.out w1 (wz) hw1) ?_
     refine jnt ?_
     refine jc_region ?_
     refine jz ?_
     refine jz ?_
     refine jz ?_
     refine jz ?_
     refine jy (y_indexAddr_slice (off := oo + i * 4) rfl rfl (by omega) (by omega) (by omega)) ?_
     refine jz ?_
     refine jy (y_load_old rfl (hold 2 _ rfl) (by simp)) ?_
     refine juc (goes_func rfl) (fun w1 hw1 => rwbyte_any b11 (wByte (wHash (z) (x.pt.tx)) (x.pt.out)) (x.path) hfx.path w1 (wz) hw1) ?_
     refine jl_nil ?_
     refine jq_block ?_
     refine jq_then ?_
     refine jc_region ?_
     refine jz ?_
     refine jy (y_add_fits rfl rfl (by simp only [fits]; omega)) ?_
     refine jz ?_
     refine jl_nil ?_
     refine jq_round (i := i) (i + 1) ?_ ?_ ?_
     ·omega
     ·exact ⟨rfl, rfl, lk_int rfl (by omega), trivial⟩
     ·exact fun _ h => ⟨by omega, h.cast (by rw [fold_take putIn hlt, hxe, hz]; rfl)⟩
     )
   ·first
    | (exfalso; omega)
    | (
     refine jnt ?_
     refine jc_false rfl ?_
     refine jc_exit ?_
     refine jq_then_exit ?_
     refine jq_then_exit ?_
     refine jq_hit ?_
     refine jq_then ?_
     refine jc_seq ?_
     refine jc_world (fun _ h => h.cast (H' := [.cells b11 [.string (txIns t).1, .int .i64 (txIns t).2], .cells b1 (Trx.c t a1 c1 a2 c2 a3 c3)]) (by rw [List.take_of_length_le (by omega)]; rfl)) ?_
     refine jc_region ?_
     refine jz ?_
     refine jz ?_
     refine jz ?_
     refine jy (y_len_slice rfl) ?_
     refine juc (goes_func rfl) (fun w1 hw1 => rwbyte_any b11 (txIns t) (((t.outs.length : Nat) : Int)) (by simp only [fits]; omega) w1 (by have := txIns_size (t := t) (by omega); omega) hw1) ?_
     refine jnt ?_
     refine jc_seq ?_
     refine jsr ?_
     refine jz ?_
     refine jnt ?_
     refine jc_block ?_
     refine jc_loop (fun (j : Nat) => [(1, .pointer (some ⟨b1, 0, none⟩)), (3, .pointer (some ⟨b11, 0, none⟩)), (5, .int .i64 (j : Nat))]) (fun (j : Nat) => fun w' => j ≤ t.outs.length ∧ Hp w [] [.cells b11 [.string ((t.outs.take j).foldl putOu (wByte (txIns t) t.outs.length)).1, .int .i64 ((t.outs.take j).foldl putOu (wByte (txIns t) t.outs.length)).2], .cells b1 (Trx.c t a1 c1 a2 c2 a3 c3)] w') (fun (j : Nat) => t.outs.length - j) 0 ?_ ?_ ?_
     ·exact ⟨rfl, rfl, rfl, trivial⟩
     ·exact fun _ h => ⟨by omega, h⟩
     ·intro j
      refine jc_and (fun hj => ?_)
      refine jc_seq ?_
      refine jsr ?_
      refine jz ?_
      refine jz ?_
      refine jz ?_
      refine jy (y_len_slice rfl) ?_
      refine jy (y_lss rfl rfl) ?_
      refine jl_prop (fun h61 => ?_) (fun h61 => ?_)
      ·first
       | (exfalso; omega)
       | (
        have hlt : j < t.outs.length := by omega
        have hfx := hf.outs _ (List.getElem_mem hlt)
        have hrx := r5 _ (List.getElem_mem hlt)
        obtain ⟨bb, oo, ea, hold⟩ := h2.get hlt
        subst ea
        generalize hxe : t.outs[j]'hlt = x at *
        have hsm := ou_small hrx
        have hzs := txOuts_size (t := t) (by omega) (t.outs.take j) (by rw [List.length_take]; omega)
        generalize hz : (t.outs.take j).foldl putOu (wByte (txIns t) t.outs.length) = z at *
        refine jnt ?_
        refine jc_true rfl ?_
        refine jc_skip ?_
        refine jq_then ?_
        refine jc_seq ?_
        refine jc_block ?_
        refine jc_seq ?_
        obtain ⟨hq1, hq2, hq3, hq4⟩ := ouFits_iff.1 hrx
        unfold ouKind at hq3
        rcases hq3 with hk | ⟨hk, hg, ha⟩ | ⟨hk, hg, ha⟩
        ·skip
         refine jc_region ?_
         refine jz ?_
         refine jz ?_
         refine jz ?_
         refine jy (y_indexAddr_slice (off := oo + j * 9) rfl rfl (by omega) (by omega) (by omega)) ?_
         refine jy (y_loadAgg_old rfl rfl hold (by simp)) ?_
         refine jl_m rfl (by decide) rfl (m_alloc) (fun b6 => ?_)
         refine jst ?_
         refine jnt ?_
         refine jsr ?_
         refine jz ?_
         refine jz ?_
         refine jz ?_
         refine juc (goes_func rfl) (fun w1 hw1 => rwbyte_any b11 (z) (x.kind) hfx.kind w1 (wz) hw1) ?_
         refine jnt ?_
         refine jsr ?_
         refine jz ?_
         refine jz ?_
         refine jz ?_
         refine juc (goes_func rfl) (fun w1 hw1 => rwnum_any b11 (wByte (z) (x.kind)) (x.amount) hfx.amount w1 (wz) hw1) ?_
         refine jnt ?_
         refine jsr ?_
         refine jz ?_
         refine jz ?_
         refine jz ?_
         refine juc (goes_func rfl) (fun w1 hw1 => rwhash_any b11 (wNum (wByte (z) (x.kind)) (x.amount)) (x.key) (by omega) w1 (wz) hw1) ?_
         refine jnt ?_
         refine jc_seq ?_
         refine jsr ?_
         refine jz ?_
         refine jz ?_
         refine jy (y_neq rfl rfl) ?_
         refine jl_as (u := .bool false) (congrArg Value.bool (decide_eq_false (by omega))) ?_
         refine jnt ?_
         refine jc_false rfl ?_
         refine jc_skip ?_
         refine jq_then ?_
         refine jc_seq ?_
         refine jsr ?_
         refine jz ?_
         refine jz ?_
         refine jy (y_eql rfl rfl) ?_
         refine jl_as (u := .bool false) (congrArg Value.bool (decide_eq_false (by omega))) ?_
         refine jnt ?_
         refine jc_false rfl ?_
         refine jc_skip ?_
         refine jq_then ?_
         refine jsr ?_
         refine jz ?_
         refine jz ?_
         refine jy (y_eql rfl rfl) ?_
         refine jl_as (u := .bool false) (congrArg Value.bool (decide_eq_false (by omega))) ?_
         refine jnt ?_
         refine jc_false rfl ?_
         refine jc_skip ?_
         refine jq_block ?_
         refine jq_then ?_
         refine jc_region ?_
         refine jz ?_
         refine jy (y_add_fits rfl rfl (by simp only [fits]; omega)) ?_
         refine jz ?_
         refine jl_nil ?_
         refine jq_round (i := j) (j + 1) ?_ ?_ ?_
         ·omega
         ·exact ⟨rfl, rfl, lk_int rfl (by omega), trivial⟩
         ·exact fun _ h => ⟨by omega, h.pop.cast (by rw [fold_take putOu hlt, hxe, hz]; unfold putOu; first | rw [if_pos (show x.kind = 1 by omega)] | rw [if_neg (show ¬ x.kind = 1 by omega), if_pos (show x.kind = 3 by omega)] | rw [if_neg (show ¬ x.kind = 1 by omega), if_neg (show ¬ x.kind = 3 by omega)])⟩
        ·skip
         refine jc_region ?_
         refine jz ?_
         refine jz ?_
         refine jz ?_
         refine jy (y_indexAddr_slice (off := oo + j * 9) rfl rfl (by omega) (by omega) (by omega)) ?_
         refine jy (y_loadAgg_old rfl rfl hold (by simp)) ?_
         refine jl_m rfl (by decide) rfl (m_alloc) (fun b6 => ?_)
         refine jst ?_
         refine jnt ?_
         refine jsr ?_
         refine jz ?_
         refine jz ?_
         refine jz ?_
         refine juc (goes_func rfl) (fun w1 hw1 => rwbyte_any b11 (z) (x.kind) hfx.kind w1 (wz) hw1) ?_
         refine jnt ?_
         refine jsr ?_
         refine jz ?_
         refine jz ?_
         refine jz ?_
         refine juc (goes_func rfl) (fun w1 hw1 => rwnum_any b11 (wByte (z) (x.kind)) (x.amount) hfx.amount w1 (wz) hw1) ?_
         refine jnt ?_
         refine jsr ?_
         refine jz ?_
         refine jz ?_
         refine jz ?_
         refine juc (goes_func rfl) (fun w1 hw1 => rwhash_any b11 (wNum (wByte (z) (x.kind)) (x.amount)) (x.key) (by omega) w1 (wz) hw1) ?_
         refine jnt ?_
         refine jc_seq ?_
         refine jsr ?_
         refine jz ?_
         refine jz ?_
         refine jy (y_neq rfl rfl) ?_
         refine jl_as (u := .bool true) (congrArg Value.bool (decide_eq_true (by omega))) ?_
         refine jnt ?_
         refine jc_true rfl ?_
         refine jsr ?_
         refine jz ?_
         refine jz ?_
         refine jz ?_
         refine juc (goes_func rfl) (fun w1 hw1 => rwhash_any b11 (wHash (wNum (wByte (z) (x.kind)) (x.amount)) (x.key)) (x.gate) (by omega) w1 (wz) hw1) ?_
         refine jnt ?_
         refine jc_region ?_
         refine jz ?_
         refine jz ?_
         refine jz ?_
         first | refine jy (y_conv_fits rfl (by simp only [fits]; omega)) ?_ | refine jy (y_conv_u64 rfl) ?_
         refine jl_as (u := .int .u64 (cntN x.expiry)) (congrArg (Value.int .u64) (cnt_eq (by omega)).symm) ?_
         refine juc (goes_func rfl) (fun w1 hw1 => rwnum_any b11 (wHash (wHash (wNum (wByte (z) (x.kind)) (x.amount)) (x.key)) (x.gate)) (cntN x.expiry) (cntN_fits hfx.expiry) w1 (wz) hw1) ?_
         refine jnt ?_
         refine jc_seq ?_
         refine jsr ?_
         refine jz ?_
         refine jz ?_
         refine jy (y_eql rfl rfl) ?_
         refine jl_as (u := .bool true) (congrArg Value.bool (decide_eq_true (by omega))) ?_
         refine jnt ?_
         refine jc_true rfl ?_
         refine jsr ?_
         refine jz ?_
         refine jz ?_
         refine jz ?_
         refine juc (goes_func rfl) (fun w1 hw1 => rwhash_any b11 (wNum (wHash (wHash (wNum (wByte (z) (x.kind)) (x.amount)) (x.key)) (x.gate)) (cntN x.expiry)) (x.anchor) (by omega) w1 (wz) hw1) ?_
         refine jnt ?_
         refine jsr ?_
         refine jz ?_
         refine jz ?_
         refine jz ?_
         refine juc (goes_func rfl) (fun w1 hw1 => rwnum_any b11 (wHash (wNum (wHash (wHash (wNum (wByte (z) (x.kind)) (x.amount)) (x.key)) (x.gate)) (cntN x.expiry)) (x.anchor)) (x.unit) hfx.unit w1 (wz) hw1) ?_
         refine jnt ?_
         refine jc_region ?_
         refine jz ?_
         refine jz ?_
         refine jz ?_
         first | refine jy (y_conv_fits rfl (by simp only [fits]; omega)) ?_ | refine jy (y_conv_u64 rfl) ?_
         refine jl_as (u := .int .u64 (cntN x.tokens)) (congrArg (Value.int .u64) (cnt_eq (by omega)).symm) ?_
         refine juc (goes_func rfl) (fun w1 hw1 => rwnum_any b11 (wNum (wHash (wNum (wHash (wHash (wNum (wByte (z) (x.kind)) (x.amount)) (x.key)) (x.gate)) (cntN x.expiry)) (x.anchor)) (x.unit)) (cntN x.tokens) (cntN_fits hfx.tokens) w1 (wz) hw1) ?_
         refine jnt ?_
         refine jsr ?_
         refine jz ?_
         refine jz ?_
         refine jy (y_eql rfl rfl) ?_
         refine jl_as (u := .bool false) (congrArg Value.bool (decide_eq_false (by omega))) ?_
         refine jnt ?_
         refine jc_false rfl ?_
         refine jc_skip ?_
         refine jq_block ?_
         refine jq_then ?_
         refine jc_region ?_
         refine jz ?_
         refine jy (y_add_fits rfl rfl (by simp only [fits]; omega)) ?_
         refine jz ?_
         refine jl_nil ?_
         refine jq_round (i := j) (j + 1) ?_ ?_ ?_
         ·omega
         ·exact ⟨rfl, rfl, lk_int rfl (by omega), trivial⟩
         ·exact fun _ h => ⟨by omega, h.pop.cast (by rw [fold_take putOu hlt, hxe, hz]; unfold putOu; first | rw [if_pos (show x.kind = 1 by omega)] | rw [if_neg (show ¬ x.kind = 1 by omega), if_pos (show x.kind = 3 by omega)] | rw [if_neg (show ¬ x.kind = 1 by omega), if_neg (show ¬ x.kind = 3 by omega)])⟩
        ·skip
         refine jc_region ?_
         refine jz ?_
         refine jz ?_
         refine jz ?_
         refine jy (y_indexAddr_slice (off := oo + j * 9) rfl rfl (by omega) (by omega) (by omega)) ?_
         refine jy (y_loadAgg_old rfl rfl hold (by simp)) ?_
         refine jl_m rfl (by decide) rfl (m_alloc) (fun b6 => ?_)
         refine jst ?_
         refine jnt ?_
         refine jsr ?_
         refine jz ?_
         refine jz ?_
         refine jz ?_
         refine juc (goes_func rfl) (fun w1 hw1 => rwbyte_any b11 (z) (x.kind) hfx.kind w1 (wz) hw1) ?_
         refine jnt ?_
         refine jsr ?_
         refine jz ?_
         refine jz ?_
         refine jz ?_
         refine juc (goes_func rfl) (fun w1 hw1 => rwnum_any b11 (wByte (z) (x.kind)) (x.amount) hfx.amount w1 (wz) hw1) ?_
         refine jnt ?_
         refine jsr ?_
         refine jz ?_
         refine jz ?_
         refine jz ?_
         refine juc (goes_func rfl) (fun w1 hw1 => rwhash_any b11 (wNum (wByte (z) (x.kind)) (x.amount)) (x.key) (by omega) w1 (wz) hw1) ?_
         refine jnt ?_
         refine jc_seq ?_
         refine jsr ?_
         refine jz ?_
         refine jz ?_
         refine jy (y_neq rfl rfl) ?_
         refine jl_as (u := .bool true) (congrArg Value.bool (decide_eq_true (by omega))) ?_
         refine jnt ?_
         refine jc_true rfl ?_
         refine jsr ?_
         refine jz ?_
         refine jz ?_
         refine jz ?_
         refine juc (goes_func rfl) (fun w1 hw1 => rwhash_any b11 (wHash (wNum (wByte (z) (x.kind)) (x.amount)) (x.key)) (x.gate) (by omega) w1 (wz) hw1) ?_
         refine jnt ?_
         refine jc_region ?_
         refine jz ?_
         refine jz ?_
         refine jz ?_
         first | refine jy (y_conv_fits rfl (by simp only [fits]; omega)) ?_ | refine jy (y_conv_u64 rfl) ?_
         refine jl_as (u := .int .u64 (cntN x.expiry)) (congrArg (Value.int .u64) (cnt_eq (by omega)).symm) ?_
         refine juc (goes_func rfl) (fun w1 hw1 => rwnum_any b11 (wHash (wHash (wNum (wByte (z) (x.kind)) (x.amount)) (x.key)) (x.gate)) (cntN x.expiry) (cntN_fits hfx.expiry) w1 (wz) hw1) ?_
         refine jnt ?_
         refine jc_seq ?_
         refine jsr ?_
         refine jz ?_
         refine jz ?_
         refine jy (y_eql rfl rfl) ?_
         refine jl_as (u := .bool false) (congrArg Value.bool (decide_eq_false (by omega))) ?_
         refine jnt ?_
         refine jc_false rfl ?_
         refine jc_skip ?_
         refine jq_then ?_
         refine jsr ?_
         refine jz ?_
         refine jz ?_
         refine jy (y_eql rfl rfl) ?_
         refine jl_as (u := .bool true) (congrArg Value.bool (decide_eq_true (by omega))) ?_
         refine jnt ?_
         refine jc_true rfl ?_
         refine jc_region ?_
         refine jz ?_
         refine jz ?_
         refine jz ?_
         refine juc (goes_func rfl) (fun w1 hw1 => rwhash_any b11 (wNum (wHash (wHash (wNum (wByte (z) (x.kind)) (x.amount)) (x.key)) (x.gate)) (cntN x.expiry)) (x.of) (by omega) w1 (wz) hw1) ?_
         refine jl_nil ?_
         refine jq_block ?_
         refine jq_then ?_
         refine jc_region ?_
         refine jz ?_
         refine jy (y_add_fits rfl rfl (by simp only [fits]; omega)) ?_
         refine jz ?_
         refine jl_nil ?_
         refine jq_round (i := j) (j + 1) ?_ ?_ ?_
         ·omega
         ·exact ⟨rfl, rfl, lk_int rfl (by omega), trivial⟩
         ·exact fun _ h => ⟨by omega, h.pop.cast (by rw [fold_take putOu hlt, hxe, hz]; unfold putOu; first | rw [if_pos (show x.kind = 1 by omega)] | rw [if_neg (show ¬ x.kind = 1 by omega), if_pos (show x.kind = 3 by omega)] | rw [if_neg (show ¬ x.kind = 1 by omega), if_neg (show ¬ x.kind = 3 by omega)])⟩
        )
      ·first
       | (exfalso; omega)
       | (
        refine jnt ?_
        refine jc_false rfl ?_
        refine jc_exit ?_
        refine jq_then_exit ?_
        refine jq_then_exit ?_
        refine jq_hit ?_
        refine jq_then ?_
        refine jsr ?_
        refine jz ?_
        refine jpc (goes_func rfl) (fun w1 hw1 => rwtext_any b11 ((t.outs.take j).foldl putOu (wByte (txIns t) t.outs.length)) w1 (CellAt.of_cells (hw1.get (A := .cells b11 [.string ((t.outs.take j).foldl putOu (wByte (txIns t) t.outs.length)).1, .int .i64 ((t.outs.take j).foldl putOu (wByte (txIns t) t.outs.length)).2]) mem0) rfl) (CellAt.of_cells (hw1.get (A := .cells b11 [.string ((t.outs.take j).foldl putOu (wByte (txIns t) t.outs.length)).1, .int .i64 ((t.outs.take j).foldl putOu (wByte (txIns t) t.outs.length)).2]) mem0) rfl)) ?_
        refine jz ?_
        refine jnt ?_
        refine jc_ret ?_
        refine jq_ret1 rfl rfl ?_
        exact fun _ hw => ⟨by unfold txCore txPut; rw [if_pos hrb, List.take_of_length_le (by omega)], hw.ch⟩
        )
     )
 ·skip
  refine jz ?_
  refine jnt ?_
  refine jc_true rfl ?_
  refine jsr ?_
  refine jz ?_
  refine jnt ?_
  refine jc_ret ?_
  refine jq_then_ret ?_
  refine jq_ret1 rfl rfl ?_
  exact fun _ hw => ⟨by unfold txCore; rw [if_neg (by simp_all)], hw.ch⟩

theorem rtxid_any (t : Trx) (a1 : Option Addr) (c1 : Nat) (a2 : Option Addr) (c2 : Nat) (a3 : Option Addr) (c3 : Nat) (w : World) (hf : t.Fit) (h1 : ElAt w a1 4 (t.ins.map Inp.c)) (h2 : ElAt w a2 9 (t.outs.map Oup.c)) (h3 : ElAt w a3 10 (t.pf.wins.map Wn.c)) (l1 : t.ins.length ≤ 1000000000) (l2 : t.outs.length ≤ 1000000000) (l3 : t.pf.wins.length ≤ 1000000000) :
  Calls Tryz.prog 18 #[.agg (Trx.c t a1 c1 a2 c2 a3 c3).toArray] w fun e w' => e = .returned (.string (txID t)) ∧ Ch [] w w' := by
 refine calls_of (n := 10) (E := [(0, .agg (Trx.c t a1 c1 a2 c2 a3 c3).toArray)]) (W := Hp w [] []) Tryz.func18 rfl rfl (Nat.le_of_ble_eq_true rfl) rfl (Hp.nil _ _) ?_
 refine jsr ?_
 refine jl_m rfl (by decide) rfl (m_box rfl rfl) (fun b1 => ?_)
 refine jz ?_
 refine jnt ?_
 refine jc_seq ?_
 refine jsr ?_
 refine jz ?_
 refine jpc (goes_func rfl) (fun w1 hw1 => rtxright_any t a1 c1 a2 c2 a3 c3 w1 hf (h1.keep hw1) (h2.keep hw1) (h3.keep hw1) l1 l2 l3) ?_
 refine jl_bool (fun h4 => ?_) (fun h4 => ?_)
 ·skip
  have hrb : txRight t = true := by assumption
  have hcn : ¬ txCore t = ⟨#[]⟩ := core_ne hrb
  refine jz ?_
  refine jnt ?_
  refine jc_false rfl ?_
  refine jc_skip ?_
  refine jq_then ?_
  refine jsr ?_
  refine jz ?_
  refine jpc (goes_func rfl) (fun w1 hw1 => rtxcore_any t a1 c1 a2 c2 a3 c3 w1 hf (h1.keep hw1) (h2.keep hw1) (h3.keep hw1) l1 l2 l3) ?_
  refine jl_m rfl (by decide) rfl (m_buildSlice (by decide) (Built.cell rfl rfl rfl (by repeat constructor) Built.nil)) (fun b8 => ?_)
  refine jpc (goes_func rfl) (fun w1 hw1 => rtag_any strTx (some ⟨b8, 0, none⟩) 1 [txCore t] w1 (by decide) (by simp) (all1 (by have := txCore_size (t := t); omega)) (Strs.of_row (hw1.get mem0))) ?_
  refine jz ?_
  refine jnt ?_
  refine jc_ret ?_
  refine jq_ret1 rfl rfl ?_
  exact fun _ hw => ⟨by unfold txID; rw [if_neg hcn], hw.ch⟩
 ·skip
  have hcz : txCore t = ⟨#[]⟩ := by unfold txCore; rw [if_neg (by simp_all)]
  refine jz ?_
  refine jnt ?_
  refine jc_true rfl ?_
  refine jsr ?_
  refine jz ?_
  refine jnt ?_
  refine jc_ret ?_
  refine jq_then_ret ?_
  refine jq_ret1 rfl rfl ?_
  exact fun _ hw => ⟨by unfold txID; rw [if_pos hcz], hw.ch⟩

theorem rcname_any (p : Pnt) (w : World) (hs : p.tx.size ≤ 1000000) :
  Calls Tryz.prog 23 #[.agg (Pnt.c p).toArray] w fun e w' => e = .returned (.string (pntName p)) ∧ Ch [] w w' := by
 refine calls_of (n := 12) (E := [(0, .agg (Pnt.c p).toArray)]) (W := Hp w [] []) Tryz.func23 rfl rfl (Nat.le_of_ble_eq_true rfl) rfl (Hp.nil _ _) ?_
 refine jsr ?_
 refine jl_m rfl (by decide) rfl (m_box rfl rfl) (fun b1 => ?_)
 refine jz ?_
 refine jnt ?_
 refine jsr ?_
 refine jz ?_
 refine jz ?_
 refine jz ?_
 refine jz ?_
 refine jy (y_conv_u8 rfl) ?_
 refine jl_m rfl (by decide) rfl (m_buildSlice (by decide) (Built.cell rfl rfl rfl (by repeat constructor) Built.nil)) (fun b8 => ?_)
 refine jy (y_str_own rfl (by first | exact mem0 | exact mem1 | exact mem2 | exact mem3 | exact mem4 | exact mem5) (by repeat constructor)) ?_
 refine jl_as (u := .string (oneB p.out)) rfl ?_
 refine jl_m rfl (by decide) rfl (m_buildSlice (by decide) (Built.cell rfl rfl rfl (by repeat constructor) (Built.cell rfl rfl rfl (by repeat constructor) Built.nil))) (fun b10 => ?_)
 refine jpc (goes_func rfl) (fun w1 hw1 => rtag_any strLock (some ⟨b10, 0, none⟩) 2 [p.tx, oneB p.out] w1 (by decide) (by simp) (all2 hs (by rw [oneB_size]; decide)) (Strs.of_row (hw1.get mem0))) ?_
 refine jz ?_
 refine jnt ?_
 refine jc_ret ?_
 refine jq_ret1 rfl rfl ?_
 exact fun _ hw => ⟨rfl, hw.ch⟩

theorem rtxenc_any (t : Trx) (a1 : Option Addr) (c1 : Nat) (a2 : Option Addr) (c2 : Nat) (a3 : Option Addr) (c3 : Nat) (w : World) (hf : t.Fit) (h1 : ElAt w a1 4 (t.ins.map Inp.c)) (h2 : ElAt w a2 9 (t.outs.map Oup.c)) (h3 : ElAt w a3 10 (t.pf.wins.map Wn.c)) (l1 : t.ins.length ≤ 1000000000) (l2 : t.outs.length ≤ 1000000000) (l3 : t.pf.wins.length ≤ 1000000000) :
  Calls Tryz.prog 20 #[.agg (Trx.c t a1 c1 a2 c2 a3 c3).toArray] w fun e w' => e = .returned (.string (txEnc t)) ∧ Ch [] w w' := by
 refine calls_of (n := 36) (E := [(0, .agg (Trx.c t a1 c1 a2 c2 a3 c3).toArray)]) (W := Hp w [] []) Tryz.func20 rfl rfl (Nat.le_of_ble_eq_true rfl) rfl (Hp.nil _ _) ?_
 refine jsr ?_
 refine jl_m rfl (by decide) rfl (m_box rfl rfl) (fun b1 => ?_)
 refine jz ?_
 refine jnt ?_
 refine jc_seq ?_
 refine jsr ?_
 refine jz ?_
 refine jpc (goes_func rfl) (fun w1 hw1 => rtxright_any t a1 c1 a2 c2 a3 c3 w1 hf (h1.keep hw1) (h2.keep hw1) (h3.keep hw1) l1 l2 l3) ?_
 refine jl_bool (fun h6 => ?_) (fun h6 => ?_)
 ·skip
  have hrb : txRight t = true := by assumption
  obtain ⟨r1, r2, r3, r4, r5, r6⟩ := txRight_iff.1 hrb
  have hcs := txCore_size (t := t)
  have hps := pfEnc_size t.pf
  refine jz ?_
  refine jnt ?_
  refine jc_false rfl ?_
  refine jc_skip ?_
  refine jq_then ?_
  refine jsr ?_
  refine jy (y_build Built.nil) ?_
  refine jl_m rfl (by decide) rfl (m_box rfl rfl) (fun b9 => ?_)
  refine jz ?_
  refine jnt ?_
  refine jsr ?_
  refine jz ?_
  refine jz ?_
  refine jpc (goes_func rfl) (fun w1 hw1 => rtxcore_any t a1 c1 a2 c2 a3 c3 w1 hf (h1.keep hw1) (h2.keep hw1) (h3.keep hw1) l1 l2 l3) ?_
  refine juc (goes_func rfl) (fun w1 hw1 => rwblob_any b9 w0 (txCore t) (by omega) w1 (by decide) hw1) ?_
  refine jnt ?_
  refine jc_seq ?_
  refine jsr ?_
  refine jz ?_
  refine jnt ?_
  refine jc_block ?_
  refine jc_loop (fun (i : Nat) => [(1, .pointer (some ⟨b1, 0, none⟩)), (3, .pointer (some ⟨b9, 0, none⟩)), (4, .int .i64 (i : Nat))]) (fun (i : Nat) => fun w' => i ≤ t.ins.length ∧ Hp w [] [.cells b9 [.string ((t.ins.take i).foldl putSig (wBlob w0 (txCore t))).1, .int .i64 ((t.ins.take i).foldl putSig (wBlob w0 (txCore t))).2], .cells b1 (Trx.c t a1 c1 a2 c2 a3 c3)] w') (fun (i : Nat) => t.ins.length - i) 0 ?_ ?_ ?_
  ·exact ⟨rfl, rfl, rfl, trivial⟩
  ·exact fun _ h => ⟨by omega, h⟩
  ·intro i
   refine jc_and (fun hi => ?_)
   refine jc_seq ?_
   refine jsr ?_
   refine jz ?_
   refine jz ?_
   refine jz ?_
   refine jy (y_len_slice rfl) ?_
   refine jy (y_lss rfl rfl) ?_
   refine jl_prop (fun h18 => ?_) (fun h18 => ?_)
   ·first
    | (exfalso; omega)
    | (
     have hlt : i < t.ins.length := by omega
     have hfx := hf.ins _ (List.getElem_mem hlt)
     have hrx := r1 _ (List.getElem_mem hlt)
     obtain ⟨bb, oo, ea, hold⟩ := h1.get hlt
     subst ea
     generalize hxe : t.ins[i]'hlt = x at *
     have hrx2 := inFits_iff.1 hrx
     have hzs := txSigs_size t (l := t.ins.take i) (by rw [List.length_take]; omega)
     generalize hz : (t.ins.take i).foldl putSig (wBlob w0 (txCore t)) = z at *
     refine jnt ?_
     refine jc_true rfl ?_
     refine jc_skip ?_
     refine jq_then ?_
     refine jc_seq ?_
     refine jc_block ?_
     refine jc_region ?_
     refine jz ?_
     refine jz ?_
     refine jz ?_
     refine jz ?_
     refine jy (y_indexAddr_slice (off := oo + i * 4) rfl rfl (by omega) (by omega) (by omega)) ?_
     refine jz ?_
     refine jy (y_load_old rfl (hold 3 _ rfl) (by simp)) ?_
     refine juc (goes_func rfl) (fun w1 hw1 => rwblob_any b9 z x.sig (by omega) w1 (by omega) hw1) ?_
     refine jl_nil ?_
     refine jq_block ?_
     refine jq_then ?_
     refine jc_region ?_
     refine jz ?_
     refine jy (y_add_fits rfl rfl (by simp only [fits]; omega)) ?_
     refine jz ?_
     refine jl_nil ?_
     refine jq_round (i := i) (i + 1) ?_ ?_ ?_
     ·omega
     ·exact ⟨rfl, rfl, lk_int rfl (by omega), trivial⟩
     ·exact fun _ h => ⟨by omega, h.cast (by rw [fold_take putSig hlt, hxe, hz]; rfl)⟩
     )
   ·first
    | (exfalso; omega)
    | (
     refine jnt ?_
     refine jc_false rfl ?_
     refine jc_exit ?_
     refine jq_then_exit ?_
     refine jq_then_exit ?_
     refine jq_hit ?_
     refine jq_then ?_
     refine jc_seq ?_
     refine jc_world (fun _ h => h.cast (H' := [.cells b9 [.string (txSigs t).1, .int .i64 (txSigs t).2], .cells b1 (Trx.c t a1 c1 a2 c2 a3 c3)]) (by rw [List.take_of_length_le (by omega)]; rfl)) ?_
     have hzs := txSigs_size t (l := t.ins) (by omega)
     refine jc_region ?_
     refine jz ?_
     refine jz ?_
     refine jz ?_
     refine jpc (goes_func rfl) (fun w1 hw1 => renc_any t.pf a3 c3 w1 (h3.keep hw1) hf.pf l3) ?_
     refine juc (goes_func rfl) (fun w1 hw1 => rwblob_any b9 (txSigs t) (pfEnc t.pf) (by omega) w1 (by have : (txSigs t).1.size + 0 ≤ 100000 := hzs; omega) hw1) ?_
     refine jnt ?_
     refine jsr ?_
     refine jz ?_
     refine jpc (goes_func rfl) (fun w1 hw1 => rwtext_any b9 (wBlob (txSigs t) (pfEnc t.pf)) w1 (CellAt.of_cells (hw1.get (A := .cells b9 [.string (wBlob (txSigs t) (pfEnc t.pf)).1, .int .i64 (wBlob (txSigs t) (pfEnc t.pf)).2]) mem0) rfl) (CellAt.of_cells (hw1.get (A := .cells b9 [.string (wBlob (txSigs t) (pfEnc t.pf)).1, .int .i64 (wBlob (txSigs t) (pfEnc t.pf)).2]) mem0) rfl)) ?_
     refine jz ?_
     refine jnt ?_
     refine jc_ret ?_
     refine jq_ret1 rfl rfl ?_
     exact fun _ hw => ⟨by unfold txEnc; rw [if_pos hrb], hw.ch⟩
     )
 ·skip
  refine jz ?_
  refine jnt ?_
  refine jc_true rfl ?_
  refine jsr ?_
  refine jz ?_
  refine jnt ?_
  refine jc_ret ?_
  refine jq_then_ret ?_
  refine jq_ret1 rfl rfl ?_
  exact fun _ hw => ⟨by unfold txEnc; rw [if_neg (by simp_all)], hw.ch⟩

end Go.Proofs.YtamlleachfngeaaGreat

namespace Go.Proofs.YtamlleachfngeaaGreat
open Go.RowKit
set_option maxRecDepth 100000
set_option maxHeartbeats 4000000
set_option linter.unusedVariables false
set_option linter.unusedSimpArgs false
theorem rq5 {A A' B C D F G : HA} {H : List HA} : Rep A A' (B :: C :: D :: F :: G :: A :: H) (B :: C :: D :: F :: G :: A' :: H) := .tail (.tail (.tail (.tail (.tail .head))))
theorem dT_fit (S : ByteArray) : (dT S).Fit := by
  refine ⟨sgL_fit _ _ _ (fun i hi => ?_) _, fun o ho => ?_, pfDec_fit _⟩
  · have : i ∈ (cI (dC S)).1 := hi
    unfold cI at this
    exact rdMany_all (P := fun i : Inp => i.Fit) (fun y => rdIn_fit _ y) _ _ i this
  · have : o ∈ (cO (dC S)).1 := ho
    unfold cO at this
    exact rdMany_all (P := fun i : Oup => i.Fit) (fun y => rdOu_fit _ y) _ _ o this
attribute [local irreducible] dC dA dI dB dP dE coTrx

theorem eq_rin (m : Nat) (x y : Inp) (w : World) : (Op.equalIn (m + 3) 68 (.agg (Inp.c x).toArray) (.agg (Inp.c y).toArray)).run Tryz.prog w = .ok (decide (x = y)) w := by
  rw [run_equalIn_agg _ _ 68 _ _ (by kernel_rfl) (by kernel_rfl), show (Program.fieldsOf Tryz.prog 68).toList = [((fsOf (Tryz.prog.underlying 68)).getD 0 default), ((fsOf (Tryz.prog.underlying 68)).getD 1 default), ((fsOf (Tryz.prog.underlying 68)).getD 2 default)] from by kernel_rfl]
  refine Eq.trans (eqF_agg (by kernel_rfl) (T := 31) (by kernel_rfl) (off := 0) (by kernel_rfl) (by repeat constructor) (by repeat constructor) (eq_pnt m x.pt y.pt w) (eqF_cell (by kernel_rfl) (T := 3) (by kernel_rfl) (off := 2) (by kernel_rfl) rfl rfl (equalIn_int (m + 1) _ _ w) (eqF_cell (by kernel_rfl) (T := 9) (by kernel_rfl) (off := 3) (by kernel_rfl) rfl rfl (equalIn_str (m + 1) _ _ w) eqF_nil))) ?_
  congr 1
  rw [Bool.eq_iff_iff]
  cases x; cases y
  simp
theorem rcosame_any (t : Trx) (a1 : Option Addr) (c1 : Nat) (a2 : Option Addr) (c2 : Nat) (a3 : Option Addr) (c3 : Nat) (u : Trx) (e1 : Option Addr) (d1 : Nat) (e2 : Option Addr) (d2 : Nat) (e3 : Option Addr) (d3 : Nat) (w : World) (h1 : ElAt w a1 4 (t.ins.map Inp.c)) (h2 : ElAt w a2 9 (t.outs.map Oup.c)) (h3 : ElAt w a3 10 (t.pf.wins.map Wn.c)) (k1 : ElAt w e1 4 (u.ins.map Inp.c)) (k2 : ElAt w e2 9 (u.outs.map Oup.c)) (k3 : ElAt w e3 10 (u.pf.wins.map Wn.c)) (l1 : t.ins.length ≤ 1000000000) (l2 : t.outs.length ≤ 1000000000) (l3 : t.pf.wins.length ≤ 1000000000) (m1 : u.ins.length ≤ 1000000000) (m2 : u.outs.length ≤ 1000000000) (m3 : u.pf.wins.length ≤ 1000000000) :
  Calls Tryz.prog 21 #[.agg (Trx.c t a1 c1 a2 c2 a3 c3).toArray, .agg (Trx.c u e1 d1 e2 d2 e3 d3).toArray] w fun e w' => e = .returned (.bool (decide (t = u))) ∧ Ch [] w w' := by
 refine calls_of (n := 64) (E := [(0, .agg (Trx.c t a1 c1 a2 c2 a3 c3).toArray), (1, .agg (Trx.c u e1 d1 e2 d2 e3 d3).toArray)]) (W := Hp w [] []) Tryz.func21 rfl rfl (Nat.le_of_ble_eq_true rfl) rfl (Hp.nil _ _) ?_
 refine jsr ?_
 refine jl_m rfl (by decide) rfl (m_box rfl rfl) (fun b2 => ?_)
 refine jl_m rfl (by decide) rfl (m_box rfl rfl) (fun b3 => ?_)
 refine jz ?_
 refine jnt ?_
 refine jc_seq ?_
 refine jsr ?_
 refine jz ?_
 refine jz ?_
 refine jy (y_len_slice rfl) ?_
 refine jz ?_
 refine jz ?_
 refine jy (y_len_slice rfl) ?_
 refine jy (y_neq rfl rfl) ?_
 refine jl_prop (fun h13 => ?_) (fun h13 => ?_)
 ·first
  | (exfalso; omega)
  | (
   refine jz ?_
   refine jsk ?_
   refine jsk ?_
   refine jsk ?_
   refine jsk ?_
   refine jsk ?_
   refine jsk ?_
   refine jsk ?_
   refine jy (y_pick_true rfl rfl) ?_
   refine jnt ?_
   refine jc_true rfl ?_
   refine jsr ?_
   refine jz ?_
   refine jnt ?_
   refine jc_ret ?_
   refine jq_then_ret ?_
   refine jq_ret1 rfl rfl ?_
   exact fun _ hw => ⟨congrArg (fun b => Ending.returned (Value.bool b)) ((decide_eq_false (fun h => by subst h; omega)).symm), hw.ch⟩
   )
 ·first
  | (exfalso; omega)
  | (
   refine jz ?_
   refine jz ?_
   refine jz ?_
   refine jy (y_len_slice rfl) ?_
   refine jz ?_
   refine jz ?_
   refine jy (y_len_slice rfl) ?_
   refine jy (y_neq rfl rfl) ?_
   refine jl_prop (fun h21 => ?_) (fun h21 => ?_)
   ·first
    | (exfalso; omega)
    | (
     refine jy (y_pick_false rfl rfl) ?_
     refine jnt ?_
     refine jc_true rfl ?_
     refine jsr ?_
     refine jz ?_
     refine jnt ?_
     refine jc_ret ?_
     refine jq_then_ret ?_
     refine jq_ret1 rfl rfl ?_
     exact fun _ hw => ⟨congrArg (fun b => Ending.returned (Value.bool b)) ((decide_eq_false (fun h => by subst h; omega)).symm), hw.ch⟩
     )
   ·first
    | (exfalso; omega)
    | (
     refine jy (y_pick_false rfl rfl) ?_
     refine jnt ?_
     refine jc_false rfl ?_
     refine jc_skip ?_
     refine jq_then ?_
     refine jc_seq ?_
     refine jsr ?_
     refine jz ?_
     refine jnt ?_
     refine jc_block ?_
     refine jc_loop (fun (i : Nat) => [(2, .pointer (some ⟨b2, 0, none⟩)), (3, .pointer (some ⟨b3, 0, none⟩)), (5, .int .i64 (i : Nat))]) (fun (i : Nat) => fun w' => (i ≤ t.ins.length ∧ t.ins.take i = u.ins.take i) ∧ Hp w [] [.cells b3 (Trx.c u e1 d1 e2 d2 e3 d3), .cells b2 (Trx.c t a1 c1 a2 c2 a3 c3)] w') (fun (i : Nat) => t.ins.length - i) 0 ?_ ?_ ?_
     ·exact ⟨rfl, rfl, rfl, trivial⟩
     ·exact fun _ h => ⟨⟨by omega, rfl⟩, h⟩
     ·intro i
      refine jc_and (fun hi => ?_)
      refine jc_seq ?_
      refine jsr ?_
      refine jz ?_
      refine jz ?_
      refine jz ?_
      refine jy (y_len_slice rfl) ?_
      refine jy (y_lss rfl rfl) ?_
      refine jl_prop (fun h27 => ?_) (fun h27 => ?_)
      ·first
       | (exfalso; omega)
       | (
        have hlt : i < t.ins.length := by omega
        have hlq : i < u.ins.length := by omega
        obtain ⟨bb, oo, ea, hold⟩ := h1.get hlt
        obtain ⟨bq, oq, eq, holq⟩ := k1.get hlq
        subst ea
        subst eq
        generalize hxe : t.ins[i]'hlt = x at *
        generalize hye : u.ins[i]'hlq = y at *
        refine jnt ?_
        refine jc_true rfl ?_
        refine jc_skip ?_
        refine jq_then ?_
        refine jc_seq ?_
        refine jc_block ?_
        refine jc_seq ?_
        refine jc_draw (by kernel_rfl) (fun _ h => h.drew) ?_
        refine juz ?_
        refine juz ?_
        refine juz ?_
        refine juy (y_indexAddr_slice (off := oo + i * 4) rfl rfl (by omega) (by omega) (by omega)) ?_
        refine juy (y_loadAgg_old rfl rfl hold (by simp)) ?_
        refine juz ?_
        refine juz ?_
        refine juz ?_
        refine juy (y_indexAddr_slice (off := oq + i * 4) rfl rfl (by omega) (by omega) (by omega)) ?_
        refine juy (y_loadAgg_old rfl rfl holq (by simp)) ?_
        refine juy (y_neq_agg rfl rfl (by kernel_rfl) (fun w => eq_rin 9997 x y w)) ?_
        refine ju_bool (fun h40 => ?_) (fun h40 => ?_)
        ·skip
         refine ju_nil ?_
         refine jq_then ?_
         refine jc_true rfl ?_
         refine jsr ?_
         refine jz ?_
         refine jnt ?_
         refine jc_ret ?_
         refine jq_block_ret ?_
         refine jq_then_ret ?_
         refine jq_then_ret ?_
         refine jq_block_ret ?_
         refine jq_then_ret ?_
         refine jq_ret1 rfl rfl ?_
         exact fun _ hw => ⟨congrArg (fun b => Ending.returned (Value.bool b)) ((decide_eq_false (fun h => get_ne hlt hlq hxe hye (by first | assumption | simp_all) (congrArg Trx.ins h))).symm), hw.ch⟩
        ·skip
         refine ju_nil ?_
         refine jq_then ?_
         refine jc_false rfl ?_
         refine jc_skip ?_
         refine jq_block ?_
         refine jq_then ?_
         refine jc_region ?_
         refine jz ?_
         refine jy (y_add_fits rfl rfl (by simp only [fits]; omega)) ?_
         refine jz ?_
         refine jl_nil ?_
         refine jq_round (i := i) (i + 1) ?_ ?_ ?_
         ·omega
         ·exact ⟨rfl, rfl, lk_int rfl (by omega), trivial⟩
         ·exact fun _ h => ⟨⟨by omega, take_both hlt hlq hi.2 (by rw [hxe, hye]; first | assumption | simp_all)⟩, h⟩
        )
      ·first
       | (exfalso; omega)
       | (
        refine jnt ?_
        refine jc_false rfl ?_
        refine jc_exit ?_
        refine jq_then_exit ?_
        refine jq_then_exit ?_
        refine jq_hit ?_
        refine jq_then ?_
        refine jc_seq ?_
        refine jsr ?_
        refine jz ?_
        refine jnt ?_
        refine jc_block ?_
        refine jc_loop (fun (j : Nat) => [(2, .pointer (some ⟨b2, 0, none⟩)), (3, .pointer (some ⟨b3, 0, none⟩)), (6, .int .i64 (j : Nat))]) (fun (j : Nat) => fun w' => (j ≤ t.outs.length ∧ t.outs.take j = u.outs.take j) ∧ Hp w [] [.cells b3 (Trx.c u e1 d1 e2 d2 e3 d3), .cells b2 (Trx.c t a1 c1 a2 c2 a3 c3)] w') (fun (j : Nat) => t.outs.length - j) 0 ?_ ?_ ?_
        ·exact ⟨rfl, rfl, rfl, trivial⟩
        ·exact fun _ h => ⟨⟨by omega, rfl⟩, h⟩
        ·intro j
         refine jc_and (fun hj => ?_)
         refine jc_seq ?_
         refine jsr ?_
         refine jz ?_
         refine jz ?_
         refine jz ?_
         refine jy (y_len_slice rfl) ?_
         refine jy (y_lss rfl rfl) ?_
         refine jl_prop (fun h45 => ?_) (fun h45 => ?_)
         ·first
          | (exfalso; omega)
          | (
           have hlt : j < t.outs.length := by omega
           have hlq : j < u.outs.length := by omega
           obtain ⟨bb, oo, ea, hold⟩ := h2.get hlt
           obtain ⟨bq, oq, eq, holq⟩ := k2.get hlq
           subst ea
           subst eq
           generalize hxe : t.outs[j]'hlt = x at *
           generalize hye : u.outs[j]'hlq = y at *
           refine jnt ?_
           refine jc_true rfl ?_
           refine jc_skip ?_
           refine jq_then ?_
           refine jc_seq ?_
           refine jc_block ?_
           refine jc_seq ?_
           refine jc_draw (by kernel_rfl) (fun _ h => h.drew) ?_
           refine juz ?_
           refine juz ?_
           refine juz ?_
           refine juy (y_indexAddr_slice (off := oo + j * 9) rfl rfl (by omega) (by omega) (by omega)) ?_
           refine juy (y_loadAgg_old rfl rfl hold (by simp)) ?_
           refine juz ?_
           refine juz ?_
           refine juz ?_
           refine juy (y_indexAddr_slice (off := oq + j * 9) rfl rfl (by omega) (by omega) (by omega)) ?_
           refine juy (y_loadAgg_old rfl rfl holq (by simp)) ?_
           refine juy (y_neq_agg rfl rfl (by kernel_rfl) (fun w => eq_rou 9998 x y w)) ?_
           refine ju_bool (fun h58 => ?_) (fun h58 => ?_)
           ·skip
            refine ju_nil ?_
            refine jq_then ?_
            refine jc_true rfl ?_
            refine jsr ?_
            refine jz ?_
            refine jnt ?_
            refine jc_ret ?_
            refine jq_block_ret ?_
            refine jq_then_ret ?_
            refine jq_then_ret ?_
            refine jq_block_ret ?_
            refine jq_then_ret ?_
            refine jq_ret1 rfl rfl ?_
            exact fun _ hw => ⟨congrArg (fun b => Ending.returned (Value.bool b)) ((decide_eq_false (fun h => get_ne hlt hlq hxe hye (by first | assumption | simp_all) (congrArg Trx.outs h))).symm), hw.ch⟩
           ·skip
            refine ju_nil ?_
            refine jq_then ?_
            refine jc_false rfl ?_
            refine jc_skip ?_
            refine jq_block ?_
            refine jq_then ?_
            refine jc_region ?_
            refine jz ?_
            refine jy (y_add_fits rfl rfl (by simp only [fits]; omega)) ?_
            refine jz ?_
            refine jl_nil ?_
            refine jq_round (i := j) (j + 1) ?_ ?_ ?_
            ·omega
            ·exact ⟨rfl, rfl, lk_int rfl (by omega), trivial⟩
            ·exact fun _ h => ⟨⟨by omega, take_both hlt hlq hj.2 (by rw [hxe, hye]; first | assumption | simp_all)⟩, h⟩
           )
         ·first
          | (exfalso; omega)
          | (
           refine jnt ?_
           refine jc_false rfl ?_
           refine jc_exit ?_
           refine jq_then_exit ?_
           refine jq_then_exit ?_
           refine jq_hit ?_
           refine jq_then ?_
           refine jsr ?_
           refine jz ?_
           refine jz ?_
           refine jz ?_
           refine jz ?_
           refine jpc (goes_func rfl) (fun w1 hw1 => rsame_any t.pf u.pf a3 e3 c3 d3 w1 (h3.keep hw1) (k3.keep hw1) l3 m3) ?_
           refine jz ?_
           refine jnt ?_
           refine jc_ret ?_
           refine jq_ret1 rfl rfl ?_
           exact fun _ hw => ⟨congrArg (fun b => Ending.returned (Value.bool b)) (by have q1 : t.ins = u.ins := (by have := hi.2; rwa [List.take_of_length_le (by omega), List.take_of_length_le (by omega)] at this); have q2 : t.outs = u.outs := (by have := hj.2; rwa [List.take_of_length_le (by omega), List.take_of_length_le (by omega)] at this); rw [Bool.eq_iff_iff, decide_eq_true_eq, trx_eq]; unfold pfSame; rw [decide_eq_true_eq]; exact ⟨fun h => ⟨q1, q2, h⟩, fun h => h.2.2⟩), hw.ch⟩
           )
        )
     )
   )

end Go.Proofs.YtamlleachfngeaaGreat

namespace Go.Proofs.YtamlleachfngeaaGreat
open Go.RowKit
set_option maxRecDepth 100000
set_option maxHeartbeats 4000000
set_option linter.unusedVariables false
set_option linter.unusedSimpArgs false
theorem el_none {α : Type} {w : World} {n : Nat} {c : α → List Value} {l : List α} (h : ElAt w none n (l.map c)) : l = [] := by
  cases l with
  | nil => rfl
  | cons x l => obtain ⟨b, o, e, _⟩ := h.get (i := 0) (by simp); cases e
theorem flat_len {α : Type} {c : α → List Value} {n : Nat} (hc : ∀ x, (c x).length = n) : ∀ l : List α, (l.flatMap c).length = l.length * n
  | [] => by simp
  | x :: l => by rw [List.flatMap_cons, List.length_append, hc, flat_len hc l, List.length_cons, Nat.succ_mul]; omega
theorem flat_one {α : Type} {c : α → List Value} (hc : ∀ x, (c x).all Value.oneCell' = true) (l : List α) : (l.flatMap c).all Value.oneCell' = true := by
  rw [List.all_eq_true]
  intro v hv
  obtain ⟨x, _, hx⟩ := List.mem_flatMap.1 hv
  exact List.all_eq_true.1 (hc x) v hx
theorem el_flat {α : Type} {w : World} {src : Addr} {n : Nat} {c : α → List Value} {l : List α} (hn : 0 < n) (hc : ∀ x, (c x).length = n) (h : ElAt w (some src) n (l.map c)) : ∀ j u, (l.flatMap c)[j]? = some u → w.cell? (src.add j) = some u := fun j u hj => by
  have hjl := (List.getElem?_eq_some_iff.1 hj).1
  rw [flat_len hc] at hjl
  have hi : j / n < l.length := Nat.div_lt_of_lt_mul (by rw [Nat.mul_comm]; exact hjl)
  obtain ⟨b, o, e, ho⟩ := h.get hi
  cases e
  have hd := Nat.div_add_mod j n
  have hm := Nat.mod_lt j hn
  have h1 := flat_get hc l (j / n) (j % n) hi hm
  rw [show j / n * n + j % n = j by rw [Nat.mul_comm]; exact hd, hj] at h1
  have h2 := ho (j % n) u h1.symm
  rw [addr_add]
  rwa [show o + j / n * n + j % n = o + j by rw [Nat.add_assoc, Nat.mul_comm, hd]] at h2
/-- Inputs of which the first ones have one byte more in their signatures. -/
def sgP (l : List Inp) : Nat → List Inp
  | 0 => l
  | n + 1 => (sgP l n).modify n fun i => ⟨i.pt, i.path, (l.getD n ⟨⟨⟨#[]⟩, 0⟩, 0, ⟨#[]⟩⟩).sig ++ ⟨#[120]⟩⟩
theorem sgP_length (l : List Inp) : ∀ n, (sgP l n).length = l.length
  | 0 => rfl
  | n + 1 => by show ((sgP l n).modify n _).length = _; rw [List.length_modify, sgP_length l n]
theorem sgP_get (l : List Inp) : ∀ n i, n ≤ i → (sgP l n)[i]? = l[i]?
  | 0, i, _ => rfl
  | n + 1, i, h => by
    show ((sgP l n).modify n _)[i]? = _
    have hne : ¬ n = i := by omega
    rw [List.getElem?_modify]
    simp only [hne, if_false]
    rw [sgP_get l n i (by omega)]
    cases l[i]? <;> rfl
theorem sgP_cell {l : List Inp} {i : Nat} (h : i < l.length) : ((sgP l i).flatMap Inp.c)[i * 4 + 3]? = some (.string l[i].sig) := by
  have hl : i < (sgP l i).length := by rw [sgP_length]; exact h
  rw [flat_get (c := Inp.c) (sz := 4) (fun _ => rfl) _ i 3 hl (by decide)]
  have := sgP_get l i i (Nat.le_refl _)
  rw [List.getElem?_eq_getElem hl, List.getElem?_eq_getElem h] at this
  rw [Option.some.inj this]
  rfl
theorem sgP_next {l : List Inp} {i : Nat} (h : i < l.length) : (sgP l (i + 1)).flatMap Inp.c = ((sgP l i).flatMap Inp.c).set (i * 4 + 3) (.string (l[i].sig ++ ⟨#[120]⟩)) := by
  have e : l.getD i ⟨⟨⟨#[]⟩, 0⟩, 0, ⟨#[]⟩⟩ = l[i] := by simp [List.getD_eq_getElem?_getD, h]
  show ((sgP l i).modify i _).flatMap Inp.c = _
  rw [e]
  exact flat_sig _ _ _ (by rw [sgP_length]; exact h)
theorem app_ne (s : ByteArray) : ¬ s ++ ⟨#[120]⟩ = s := fun h => by
  have := congrArg ByteArray.size h
  rw [ByteArray.size_append, z120] at this
  omega

theorem cloneInp_any (ad : Option Addr) (c : Nat) (l : List Inp) (w : World) (hl : l.length ≤ 1000000) (hE : ElAt w ad 4 (l.map Inp.c)) :
  Calls Tryz.prog 32 #[.slice ad l.length c] w fun e w' => ∃ pr : Option Addr × Nat, e = .returned (.slice pr.1 l.length pr.2) ∧ Fresh w w' (.row pr.1 l.length pr.2 53 4 (l.flatMap Inp.c)) := by
 refine calls_of (n := 8) (E := [(0, .slice ad l.length c)]) (W := Hp w [] []) Tryz.func32 rfl rfl (Nat.le_of_ble_eq_true rfl) rfl (Hp.nil _ _) ?_
 refine jsr ?_
 refine jz ?_
 refine jnt ?_
 refine jc_seq ?_
 refine jc_seq ?_
 rcases ad with _ | ⟨bq, oq, sq⟩
 ·skip
  refine jc_region ?_
  refine jz ?_
  refine jy (y_eql_snil rfl rfl) ?_
  refine jl_as (u := .bool true) rfl ?_
  refine jnt ?_
  refine jc_true rfl ?_
  refine jc_seq ?_
  have hl0 := el_none hE
  subst hl0
  refine jc_region ?_
  refine jz ?_
  refine jnt ?_
  refine jc_ret ?_
  refine jq_then_ret ?_
  refine jq_ret1 rfl rfl ?_
  exact fun _ hw => ⟨(none, 0), rfl, (Hp.nilrow 53 4 hw).fresh⟩
 ·skip
  refine jc_region ?_
  refine jz ?_
  refine jy (y_eql_snil rfl rfl) ?_
  refine jl_as (u := .bool false) rfl ?_
  refine jnt ?_
  refine jc_false rfl ?_
  refine jc_skip ?_
  refine jq_then ?_
  refine jsr ?_
  refine jl_m rfl (by decide) rfl (m_buildSlice (size := 4) (by decide) Built.nil) (fun b5 => ?_)
  refine jz ?_
  refine jl_m2 rfl (by decide) rfl (m_append_of rfl rfl del0 (flat_len (n := 4) (c := Inp.c) (fun _ => rfl) l) (fun w2 hw2 => el_flat (c := Inp.c) (by decide) (fun _ => rfl) (hE.keep (hw2.part (F := []) .nil))) (flat_one (c := Inp.c) (fun _ => rfl) l) (by omega) (by omega)) (fun a7 c7 => ?_)
  refine jz ?_
  refine jnt ?_
  refine jc_ret ?_
  refine jq_ret1 rfl rfl ?_
  exact fun _ hw => ⟨(a7, c7), by simp only [Nat.zero_add], by simp only [Nat.zero_add, List.nil_append] at hw; exact hw.fresh⟩

theorem cloneOup_any (ad : Option Addr) (c : Nat) (l : List Oup) (w : World) (hl : l.length ≤ 1000000) (hE : ElAt w ad 9 (l.map Oup.c)) :
  Calls Tryz.prog 33 #[.slice ad l.length c] w fun e w' => ∃ pr : Option Addr × Nat, e = .returned (.slice pr.1 l.length pr.2) ∧ Fresh w w' (.row pr.1 l.length pr.2 47 9 (l.flatMap Oup.c)) := by
 refine calls_of (n := 8) (E := [(0, .slice ad l.length c)]) (W := Hp w [] []) Tryz.func33 rfl rfl (Nat.le_of_ble_eq_true rfl) rfl (Hp.nil _ _) ?_
 refine jsr ?_
 refine jz ?_
 refine jnt ?_
 refine jc_seq ?_
 refine jc_seq ?_
 rcases ad with _ | ⟨bq, oq, sq⟩
 ·skip
  refine jc_region ?_
  refine jz ?_
  refine jy (y_eql_snil rfl rfl) ?_
  refine jl_as (u := .bool true) rfl ?_
  refine jnt ?_
  refine jc_true rfl ?_
  refine jc_seq ?_
  have hl0 := el_none hE
  subst hl0
  refine jc_region ?_
  refine jz ?_
  refine jnt ?_
  refine jc_ret ?_
  refine jq_then_ret ?_
  refine jq_ret1 rfl rfl ?_
  exact fun _ hw => ⟨(none, 0), rfl, (Hp.nilrow 47 9 hw).fresh⟩
 ·skip
  refine jc_region ?_
  refine jz ?_
  refine jy (y_eql_snil rfl rfl) ?_
  refine jl_as (u := .bool false) rfl ?_
  refine jnt ?_
  refine jc_false rfl ?_
  refine jc_skip ?_
  refine jq_then ?_
  refine jsr ?_
  refine jl_m rfl (by decide) rfl (m_buildSlice (size := 9) (by decide) Built.nil) (fun b5 => ?_)
  refine jz ?_
  refine jl_m2 rfl (by decide) rfl (m_append_of rfl rfl del0 (flat_len (n := 9) (c := Oup.c) (fun _ => rfl) l) (fun w2 hw2 => el_flat (c := Oup.c) (by decide) (fun _ => rfl) (hE.keep (hw2.part (F := []) .nil))) (flat_one (c := Oup.c) (fun _ => rfl) l) (by omega) (by omega)) (fun a7 c7 => ?_)
  refine jz ?_
  refine jnt ?_
  refine jc_ret ?_
  refine jq_ret1 rfl rfl ?_
  exact fun _ hw => ⟨(a7, c7), by simp only [Nat.zero_add], by simp only [Nat.zero_add, List.nil_append] at hw; exact hw.fresh⟩

theorem cloneWn_any (ad : Option Addr) (c : Nat) (l : List Wn) (w : World) (hl : l.length ≤ 1000000) (hE : ElAt w ad 10 (l.map Wn.c)) :
  Calls Tryz.prog 34 #[.slice ad l.length c] w fun e w' => ∃ pr : Option Addr × Nat, e = .returned (.slice pr.1 l.length pr.2) ∧ Fresh w w' (.row pr.1 l.length pr.2 77 10 (l.flatMap Wn.c)) := by
 refine calls_of (n := 8) (E := [(0, .slice ad l.length c)]) (W := Hp w [] []) Tryz.func34 rfl rfl (Nat.le_of_ble_eq_true rfl) rfl (Hp.nil _ _) ?_
 refine jsr ?_
 refine jz ?_
 refine jnt ?_
 refine jc_seq ?_
 refine jc_seq ?_
 rcases ad with _ | ⟨bq, oq, sq⟩
 ·skip
  refine jc_region ?_
  refine jz ?_
  refine jy (y_eql_snil rfl rfl) ?_
  refine jl_as (u := .bool true) rfl ?_
  refine jnt ?_
  refine jc_true rfl ?_
  refine jc_seq ?_
  have hl0 := el_none hE
  subst hl0
  refine jc_region ?_
  refine jz ?_
  refine jnt ?_
  refine jc_ret ?_
  refine jq_then_ret ?_
  refine jq_ret1 rfl rfl ?_
  exact fun _ hw => ⟨(none, 0), rfl, (Hp.nilrow 77 10 hw).fresh⟩
 ·skip
  refine jc_region ?_
  refine jz ?_
  refine jy (y_eql_snil rfl rfl) ?_
  refine jl_as (u := .bool false) rfl ?_
  refine jnt ?_
  refine jc_false rfl ?_
  refine jc_skip ?_
  refine jq_then ?_
  refine jsr ?_
  refine jl_m rfl (by decide) rfl (m_buildSlice (size := 10) (by decide) Built.nil) (fun b5 => ?_)
  refine jz ?_
  refine jl_m2 rfl (by decide) rfl (m_append_of rfl rfl del0 (flat_len (n := 10) (c := Wn.c) (fun _ => rfl) l) (fun w2 hw2 => el_flat (c := Wn.c) (by decide) (fun _ => rfl) (hE.keep (hw2.part (F := []) .nil))) (flat_one (c := Wn.c) (fun _ => rfl) l) (by omega) (by omega)) (fun a7 c7 => ?_)
  refine jz ?_
  refine jnt ?_
  refine jc_ret ?_
  refine jq_ret1 rfl rfl ?_
  exact fun _ hw => ⟨(a7, c7), by simp only [Nat.zero_add], by simp only [Nat.zero_add, List.nil_append] at hw; exact hw.fresh⟩

theorem cocopy_any (t : Trx) (a1 : Option Addr) (c1 : Nat) (a2 : Option Addr) (c2 : Nat) (a3 : Option Addr) (c3 : Nat) (w : World) (h1 : ElAt w a1 4 (t.ins.map Inp.c)) (h2 : ElAt w a2 9 (t.outs.map Oup.c)) (h3 : ElAt w a3 10 (t.pf.wins.map Wn.c)) (l1 : t.ins.length ≤ 1000000) (l2 : t.outs.length ≤ 1000000) (l3 : t.pf.wins.length ≤ 1000000) :
  Calls Tryz.prog 11 #[.agg (Trx.c t a1 c1 a2 c2 a3 c3).toArray] w fun e w' => ∃ pr : (Option Addr × Nat) × (Option Addr × Nat) × (Option Addr × Nat), e = .returned (.agg (Trx.c t pr.1.1 pr.1.2 pr.2.1.1 pr.2.1.2 pr.2.2.1 pr.2.2.2).toArray) ∧ Hp w [] [.row pr.1.1 t.ins.length pr.1.2 53 4 (t.ins.flatMap Inp.c), .row pr.2.1.1 t.outs.length pr.2.1.2 47 9 (t.outs.flatMap Oup.c), .row pr.2.2.1 t.pf.wins.length pr.2.2.2 77 10 (t.pf.wins.flatMap Wn.c)] w' := by
 refine calls_of (n := 18) (E := [(0, .agg (Trx.c t a1 c1 a2 c2 a3 c3).toArray)]) (W := Hp w [] []) Tryz.func11 rfl rfl (Nat.le_of_ble_eq_true rfl) rfl (Hp.nil _ _) ?_
 refine jsr ?_
 refine jl_m rfl (by decide) rfl (m_box rfl rfl) (fun b1 => ?_)
 refine jl_m rfl (by decide) rfl (m_alloc) (fun b2 => ?_)
 refine jnt ?_
 refine jc_seq ?_
 refine jc_drop [] ?_
 refine jc_freeT 7 (by kernel_rfl) (by kernel_rfl) ?_
 simp only [List.take_succ_cons, List.take_zero, List.drop_succ_cons, List.drop_zero]
 refine jm_y [] rfl rfl (fun w1 hw1 => And.intro rfl (y_fieldAddr rfl)) ?_
 first | refine jm_y [0] rfl rfl (fun w1 hw1 => And.intro rfl (y_load_old rfl (CellAt.of_cells (hw1.get (by first | exact mem0 | exact mem1 | exact mem2 | exact mem3 | exact mem4 | exact mem5)) rfl) (by simp))) ?_
 refine jm_fcall [1] rfl rfl (fun w1 hw1 => And.intro rfl ⟨_, _, goes_func rfl, cloneInp_any a1 c1 t.ins w1 l1 (h1.keep hw1)⟩) ?_
 refine jm_y [] rfl rfl (fun w1 hw1 => And.intro rfl (y_fieldAddr rfl)) ?_
 first | refine jm_y [3] rfl rfl (fun w1 hw1 => And.intro rfl (y_load_old rfl (CellAt.of_cells (hw1.get (by first | exact mem0 | exact mem1 | exact mem2 | exact mem3 | exact mem4 | exact mem5)) rfl) (by simp))) ?_
 refine jm_fcall [4] rfl rfl (fun w1 hw1 => And.intro rfl ⟨_, _, goes_func rfl, cloneOup_any a2 c2 t.outs w1 l2 (h2.keep hw1)⟩) ?_
 refine jm_y [] rfl rfl (fun w1 hw1 => And.intro rfl (y_fieldAddr rfl)) ?_
 refine jm_nil ?_
 simp only [Ends, List.cons_append, List.nil_append]
 intro po pi
 refine jst ?_
 refine jz ?_
 refine jst ?_
 refine jnt ?_
 refine jsr ?_
 refine jz ?_
 refine jz ?_
 refine jz ?_
 refine jl_fcall rfl (by decide) rfl (goes_func rfl) (fun w1 hw1 => cloneWn_any a3 c3 t.pf.wins w1 l3 (h3.keep hw1)) (fun pw => ?_)
 refine jz ?_
 refine jz ?_
 refine jst ?_
 refine jnt ?_
 refine jsr ?_
 refine jz ?_
 refine jst ?_
 refine jnt ?_
 refine jc_ret ?_
 refine jq_res (.inl rfl) rfl (.cell rfl (by first | exact ld_agg (by first | exact mem0 | exact mem1 | exact mem2 | exact mem3 | exact mem4 | exact mem5) (by repeat constructor) | exact ld_agg (by first | exact mem0 | exact mem1 | exact mem2 | exact mem3 | exact mem4 | exact mem5) (by assumption)) .nil) ?_
 exact fun _ hw => ⟨(pi, po, pw), rfl, hw.part (.cons del1 (.cons del1 (.cons del0 .nil)))⟩

theorem coinPuts_any (t : Trx) (a1 : Option Addr) (c1 : Nat) (a2 : Option Addr) (c2 : Nat) (a3 : Option Addr) (c3 : Nat) (u : Trx) (e1 : Option Addr) (d1 : Nat) (e2 : Option Addr) (d2 : Nat) (e3 : Option Addr) (d3 : Nat) (pt : Pnt) (w : World) (hf : t.Fit) (h1 : ElAt w a1 4 (t.ins.map Inp.c)) (h2 : ElAt w a2 9 (t.outs.map Oup.c)) (h3 : ElAt w a3 10 (t.pf.wins.map Wn.c)) (hg : u.Fit) (g1 : ElAt w e1 4 (u.ins.map Inp.c)) (g2 : ElAt w e2 9 (u.outs.map Oup.c)) (g3 : ElAt w e3 10 (u.pf.wins.map Wn.c)) (hp : fits .i64 pt.out) :
  Calls Tryz.prog 3 #[.agg (Trx.c t a1 c1 a2 c2 a3 c3).toArray, .agg (Trx.c u e1 d1 e2 d2 e3 d3).toArray, .agg (Pnt.c pt).toArray] w fun e w' => e = .returned (.bool true) ∧ Ch [] w w' := by
 have hcf := ctTx_fit hf
 have hcg := ctTx_fit hg
 have hlt6 := ctTx_len t
 have hlu6 := ctTx_len u
 have hpc := cutS_size pt.tx 40
 refine calls_of (n := 166) (E := [(0, .agg (Trx.c t a1 c1 a2 c2 a3 c3).toArray), (1, .agg (Trx.c u e1 d1 e2 d2 e3 d3).toArray), (2, .agg (Pnt.c pt).toArray)]) (W := Hp w [] []) Tryz.func3 rfl rfl (Nat.le_of_ble_eq_true rfl) rfl (Hp.nil _ _) ?_
 refine jsr ?_
 refine jl_m rfl (by decide) rfl (m_box rfl rfl) (fun b3 => ?_)
 refine jl_m rfl (by decide) rfl (m_box rfl rfl) (fun b4 => ?_)
 refine jl_m rfl (by decide) rfl (m_box rfl rfl) (fun b5 => ?_)
 refine jz ?_
 refine jnt ?_
 refine jsr ?_
 refine jz ?_
 refine jl_gcall3 rfl (by decide) rfl (goes_func rfl) (fun w1 hw1 => cuttx_any t a1 c1 a2 c2 a3 c3 w1 (h1.keep hw1) (h2.keep hw1) (h3.keep hw1)) (fun p => ?_)
 refine jst ?_
 refine jnt ?_
 refine jc_seq ?_
 refine jc_world (fun _ h => h.part (F := [.cells b4 (Trx.c u e1 d1 e2 d2 e3 d3), .cells b3 (Trx.c (ctTx t) p.1.1 p.1.2 p.2.1.1 p.2.1.2 p.2.2.1 p.2.2.2), .cells b5 (Pnt.c pt), .row p.1.1 (ctTx t).ins.length p.1.2 53 4 ((ctTx t).ins.flatMap Inp.c), .row p.2.1.1 (ctTx t).outs.length p.2.1.2 47 9 ((ctTx t).outs.flatMap Oup.c), .row p.2.2.1 (ctTx t).pf.wins.length p.2.2.2 77 10 ((ctTx t).pf.wins.flatMap Wn.c)]) (.cons del4 (.cons del4 (.cons del3 (.cons del0 (.cons del0 (.cons del0 .nil))))))) ?_
 refine jc_region ?_
 refine jz ?_
 refine jl_gcall3 rfl (by decide) rfl (goes_func rfl) (fun w1 hw1 => cuttx_any u e1 d1 e2 d2 e3 d3 w1 (g1.keep hw1) (g2.keep hw1) (g3.keep hw1)) (fun q => ?_)
 refine jst ?_
 refine jnt ?_
 refine jsr ?_
 refine jz ?_
 refine jz ?_
 refine jz ?_
 refine jz ?_
 refine jy (y_len_str rfl) ?_
 refine jy (y_min rfl rfl) ?_
 refine jy (y_substr_hi rfl rfl (by omega) (by omega)) ?_
 refine jl_as (congrArg Value.string (cut_eq _ 40)) ?_
 refine jz ?_
 refine jst ?_
 refine jnt ?_
 refine jc_seq ?_
 refine jc_rebase (fun wx hbx => ?_)
 have hk : Old wx b3 0 (Trx.c (ctTx t) p.1.1 p.1.2 p.2.1.1 p.2.1.2 p.2.2.1 p.2.2.2) := Old.of_cells (hbx.get mem4)
 have k1 : ElAt wx p.1.1 4 ((ctTx t).ins.map Inp.c) := ElAt.of_row (fun _ => rfl) rfl (hbx.get (.tail _ mem5))
 have k2 : ElAt wx p.2.1.1 9 ((ctTx t).outs.map Oup.c) := ElAt.of_row (fun _ => rfl) rfl (hbx.get (.tail _ (.tail _ mem5)))
 have k3 : ElAt wx p.2.2.1 10 ((ctTx t).pf.wins.map Wn.c) := ElAt.of_row (fun _ => rfl) rfl (hbx.get (.tail _ (.tail _ (.tail _ mem5))))
 have hm : Old wx b4 0 (Trx.c (ctTx u) q.1.1 q.1.2 q.2.1.1 q.2.1.2 q.2.2.1 q.2.2.2) := Old.of_cells (hbx.get mem3)
 have m1 : ElAt wx q.1.1 4 ((ctTx u).ins.map Inp.c) := ElAt.of_row (fun _ => rfl) rfl (hbx.get mem0)
 have m2 : ElAt wx q.2.1.1 9 ((ctTx u).outs.map Oup.c) := ElAt.of_row (fun _ => rfl) rfl (hbx.get mem1)
 have m3 : ElAt wx q.2.2.1 10 ((ctTx u).pf.wins.map Wn.c) := ElAt.of_row (fun _ => rfl) rfl (hbx.get mem2)
 have h5 : Old wx b5 0 (Pnt.c (⟨cutS pt.tx 40, pt.out⟩ : Pnt)) := Old.of_cells (hbx.get mem5)
 replace g1 := g1.keep hbx
 replace g2 := g2.keep hbx
 replace g3 := g3.keep hbx
 refine jc_region ?_
 refine jz ?_
 refine jy (y_load_old rfl (hk 1 _ rfl) (by simp)) ?_
 refine jpc (goes_func rfl) (fun w1 hw1 => whole_any p.2.1.1 p.2.1.2 (ctTx t).outs w1 hcf.outs (by omega) (k2.keep hw1)) ?_
 refine jz ?_
 refine jz ?_
 refine jz ?_
 refine jz ?_
 refine jz ?_
 refine jnt ?_
 refine jsr ?_
 refine jy (y_loadAgg_old rfl rfl hk (by simp)) ?_
 refine jl_gcall3 rfl (by decide) rfl (goes_func rfl) (fun w1 hw1 => reftx_any (ctTx t) p.1.1 p.1.2 p.2.1.1 p.2.1.2 p.2.2.1 p.2.2.2 w1 (k1.keep hw1) (k2.keep hw1) (k3.keep hw1) (by have := ctTx_len t; omega) (by have := ctTx_len t; omega) (by have := ctTx_len t; omega)) (fun r => ?_)
 refine jy (y_field rfl rfl) ?_
 refine jpc (goes_func rfl) (fun w1 hw1 => rwhole_any r.2.1.1 r.2.1.2 (ctTx t).outs w1 hcf.outs (by omega) (ElAt.of_row (fun _ => rfl) rfl (hw1.get mem1))) ?_
 refine jz ?_
 refine jz ?_
 refine jz ?_
 refine jz ?_
 refine jz ?_
 refine jnt ?_
 refine jc_seq ?_
 refine jc_seq ?_
 refine jc_world (fun _ h => h.part (F := []) .nil) ?_
 refine jc_region ?_
 refine jz ?_
 refine jnt ?_
 refine jc_block ?_
 refine jc_loop (fun (i : Nat) => [(3, .pointer (some ⟨b3, 0, none⟩)), (4, .pointer (some ⟨b4, 0, none⟩)), (5, .pointer (some ⟨b5, 0, none⟩)), (7, .int .u64 (sumA ((ctTx t).outs.map Oup.amount))), (8, .int .i64 (sumE ((ctTx t).outs.map Oup.amount))), (9, .int .u64 (sumA ((ctTx t).outs.map Oup.amount))), (10, .int .i64 (sumE ((ctTx t).outs.map Oup.amount))), (11, .int .i64 (i : Nat))]) (fun (i : Nat) => fun w' => i ≤ (ctTx t).outs.length ∧ Hp wx [] [] w') (fun (i : Nat) => (ctTx t).outs.length - i) 0 ?_ ?_ ?_
 ·exact ⟨rfl, rfl, rfl, rfl, rfl, rfl, rfl, rfl, trivial⟩
 ·exact fun _ h => ⟨by omega, h⟩
 ·intro i
  refine jc_and (fun hi => ?_)
  refine jc_seq ?_
  refine jsr ?_
  refine jz ?_
  refine jz ?_
  refine jy (y_load_old rfl (hk 1 _ rfl) (by simp)) ?_
  refine jy (y_len_slice rfl) ?_
  refine jy (y_lss rfl rfl) ?_
  refine jl_prop (fun h43 => ?_) (fun h43 => ?_)
  ·first
   | (exfalso; omega)
   | (
    have hlt : i < (ctTx t).outs.length := by omega
    obtain ⟨bb, oo, ea, hold⟩ := k2.get hlt
    have hfx := hcf.outs _ (List.getElem_mem hlt)
    generalize hxe : (ctTx t).outs[i]'hlt = x at *
    refine jnt ?_
    refine jc_true rfl ?_
    refine jc_skip ?_
    refine jq_then ?_
    refine jc_seq ?_
    refine jc_block ?_
    refine jc_seq ?_
    refine jc_draw (by kernel_rfl) (fun _ h => h.drew) ?_
    refine juz ?_
    refine juy (y_load_old rfl (hk 1 _ rfl) (by simp)) ?_
    refine ju_as (u := .slice (some ⟨bb, oo, none⟩) (ctTx t).outs.length p.2.1.2) (by rw [ea]) ?_
    refine juz ?_
    refine juy (y_indexAddr_slice (off := oo + i * 9) rfl rfl (by omega) (by omega) (by omega)) ?_
    refine juy (y_loadAgg_old rfl rfl hold (by simp)) ?_
    refine ju_call rfl (by decide) rfl (goes_func rfl) (fun w1 hw1 => pcall hw1 (cfits_any x w1)) ?_
    refine juz ?_
    refine juy (y_load_old rfl (hk 1 _ rfl) (by simp)) ?_
    refine ju_as (u := .slice (some ⟨bb, oo, none⟩) (ctTx t).outs.length p.2.1.2) (by rw [ea]) ?_
    refine juz ?_
    refine juy (y_indexAddr_slice (off := oo + i * 9) rfl rfl (by omega) (by omega) (by omega)) ?_
    refine juy (y_loadAgg_old rfl rfl hold (by simp)) ?_
    refine ju_call rfl (by decide) rfl (goes_func rfl) (fun w1 hw1 => pcall hw1 (refou_any x w1)) ?_
    refine ju_call rfl (by decide) rfl (goes_func rfl) (fun w1 hw1 => pcall hw1 (rfits_any x w1 hfx)) ?_
    refine juy (y_neq_bool rfl rfl) ?_
    refine ju_as (u := .bool false) (congrArg Value.bool (bne_self_eq_false _)) ?_
    refine ju_nil ?_
    refine jq_then ?_
    refine jc_false rfl ?_
    refine jc_skip ?_
    refine jq_block ?_
    refine jq_then ?_
    refine jc_region ?_
    refine jz ?_
    refine jy (y_add_fits rfl rfl (by simp only [fits]; omega)) ?_
    refine jz ?_
    refine jl_nil ?_
    refine jq_round (i := i) (i + 1) ?_ ?_ ?_
    ·omega
    ·exact ⟨rfl, rfl, rfl, rfl, rfl, rfl, rfl, lk_int rfl (by omega), trivial⟩
    ·exact fun _ h => ⟨by omega, h⟩
    )
  ·first
   | (exfalso; omega)
   | (
    refine jnt ?_
    refine jc_false rfl ?_
    refine jc_exit ?_
    refine jq_then_exit ?_
    refine jq_then_exit ?_
    refine jq_hit ?_
    refine jq_then ?_
    refine jsr ?_
    refine jy (y_loadAgg_old rfl rfl hk (by simp)) ?_
    refine jl_gcall3 rfl (by decide) rfl (goes_func rfl) (fun w1 hw1 => cocopy_any (ctTx t) p.1.1 p.1.2 p.2.1.1 p.2.1.2 p.2.2.1 p.2.2.2 w1 (k1.keep hw1) (k2.keep hw1) (k3.keep hw1) (by have := ctTx_len t; omega) (by have := ctTx_len t; omega) (by have := ctTx_len t; omega)) (fun cc => ?_)
    refine jl_m rfl (by decide) rfl (m_alloc) (fun b12 => ?_)
    refine jst ?_
    refine jnt ?_
    refine jc_seq ?_
    refine jsr ?_
    refine jz ?_
    refine jy (y_loadAgg_old rfl rfl hk (by simp)) ?_
    refine jpc (goes_func rfl) (fun w1 hw1 => cq (cosame_any (ctTx t) (ctTx t) cc.1.1 cc.1.2 cc.2.1.1 cc.2.1.2 cc.2.2.1 cc.2.2.2 p.1.1 p.1.2 p.2.1.1 p.2.1.2 p.2.2.1 p.2.2.2 w1 (ElAt.of_row (fun _ => rfl) rfl (hw1.get mem1)) (ElAt.of_row (fun _ => rfl) rfl (hw1.get mem2)) (ElAt.of_row (fun _ => rfl) rfl (hw1.get mem3)) (k1.keep hw1) (k2.keep hw1) (k3.keep hw1) (by have := ctTx_len t; omega) (by have := ctTx_len t; omega) (by have := ctTx_len t; omega) (by have := ctTx_len t; omega) (by have := ctTx_len t; omega) (by have := ctTx_len t; omega)) (congrArg Value.bool (decide_eq_true rfl))) ?_
    refine jz ?_
    refine jnt ?_
    refine jc_false rfl ?_
    refine jc_skip ?_
    refine jq_then ?_
    refine jc_seq ?_
    refine jc_seq ?_
    obtain ⟨⟨y1, z1⟩, ⟨y2, z2⟩, ⟨y3, z3⟩⟩ := cc
    refine jc_world (fun _ h => h.part (F := [.cells b12 (Trx.c (ctTx t) y1 z1 y2 z2 y3 z3), .row y1 (ctTx t).ins.length z1 53 4 ((sgP (ctTx t).ins 0).flatMap Inp.c)]) (.cons del0 (.cons del0 .nil))) ?_
    refine jc_region ?_
    refine jz ?_
    refine jnt ?_
    refine jc_block ?_
    refine jc_loop (fun (i : Nat) => [(3, .pointer (some ⟨b3, 0, none⟩)), (4, .pointer (some ⟨b4, 0, none⟩)), (5, .pointer (some ⟨b5, 0, none⟩)), (7, .int .u64 (sumA ((ctTx t).outs.map Oup.amount))), (8, .int .i64 (sumE ((ctTx t).outs.map Oup.amount))), (9, .int .u64 (sumA ((ctTx t).outs.map Oup.amount))), (10, .int .i64 (sumE ((ctTx t).outs.map Oup.amount))), (12, .pointer (some ⟨b12, 0, none⟩)), (13, .int .i64 (i : Nat))]) (fun (i : Nat) => fun w' => i ≤ (ctTx t).ins.length ∧ Hp wx [] [.cells b12 (Trx.c (ctTx t) y1 z1 y2 z2 y3 z3), .row y1 (ctTx t).ins.length z1 53 4 ((sgP (ctTx t).ins i).flatMap Inp.c)] w') (fun (i : Nat) => (ctTx t).ins.length - i) 0 ?_ ?_ ?_
    ·exact ⟨rfl, rfl, rfl, rfl, rfl, rfl, rfl, rfl, rfl, trivial⟩
    ·exact fun _ h => ⟨by omega, h⟩
    ·intro i
     refine jc_and (fun hi => ?_)
     refine jc_seq ?_
     refine jsr ?_
     refine jz ?_
     refine jz ?_
     refine jz ?_
     refine jy (y_len_slice rfl) ?_
     refine jy (y_lss rfl rfl) ?_
     refine jl_prop (fun h70 => ?_) (fun h70 => ?_)
     ·first
      | (exfalso; omega)
      | (
       refine jz ?_
       refine jz ?_
       refine jz ?_
       refine jy (y_load_old rfl (hk 0 _ rfl) (by simp)) ?_
       refine jy (y_len_slice rfl) ?_
       refine jy (y_lss rfl rfl) ?_
       refine jl_prop (fun h76 => ?_) (fun h76 => ?_)
       ·first
        | (exfalso; omega)
        | (
         refine jy (y_pick_true rfl rfl) ?_
         refine jnt ?_
         refine jc_true rfl ?_
         refine jc_skip ?_
         refine jq_then ?_
         refine jc_seq ?_
         refine jc_block ?_
         refine jc_seq ?_
         have hlt : i < (ctTx t).ins.length := by omega
         refine jc_pure (p := ∃ b, y1 = some ⟨b, 0, none⟩) (fun w h => row_some (h.get (A := .row y1 (ctTx t).ins.length z1 53 4 ((sgP (ctTx t).ins i).flatMap Inp.c)) mem1) (by omega)) (fun hb => ?_)
         obtain ⟨bc, rfl⟩ := hb
         obtain ⟨bb, oo, ea, hold⟩ := k1.get hlt
         have hcl := sgP_cell hlt
         have hnx := sgP_next hlt
         have hsx : ((ctTx t).ins[i]'hlt).sig.size ≤ 450 := ct_sig t hlt
         generalize hxe : (ctTx t).ins[i]'hlt = x at *
         refine jc_tail 12 (by kernel_rfl) (fun _ h => h.drew) ?_
         simp only [List.take_succ_cons, List.take_zero, List.drop_succ_cons, List.drop_zero]
         refine jtz ?_
         refine jtz ?_
         refine jtz ?_
         refine jtz ?_
         refine jtz ?_
         refine jtz ?_
         refine jty (y_indexAddr_slice (off := i * 4) rfl rfl (by omega) (by omega) (by omega)) ?_
         refine jtz ?_
         refine jty (y_load_row rfl (by first | exact mem0 | exact mem1 | exact mem2 | exact mem3 | exact mem4 | exact mem5) hcl) ?_
         refine jty (y_concat rfl rfl (by rw [z120]; omega)) ?_
         refine jty (y_indexAddr_slice (off := i * 4) rfl rfl (by omega) (by omega) (by omega)) ?_
         refine jtz ?_
         refine jt_nil ?_
         refine jl_w rfl rfl (w_store_row rfl rfl rfl (by rw [flat_length, sgP_length]; omega) rep1) ?_
         refine jnt ?_
         refine jc_seq ?_
         refine jc_draw (by kernel_rfl) (fun _ h => h.drew) ?_
         refine juz ?_
         refine juz ?_
         refine juz ?_
         refine juy (y_indexAddr_slice (off := i * 4) rfl rfl (by omega) (by omega) (by omega)) ?_
         refine juz ?_
         refine juy (y_load_row rfl (by first | exact mem0 | exact mem1 | exact mem2 | exact mem3 | exact mem4 | exact mem5) (by rw [List.getElem?_set_self (by rw [flat_length, sgP_length]; omega)])) ?_
         refine juz ?_
         refine juy (y_load_old rfl (hk 0 _ rfl) (by simp)) ?_
         refine ju_as (u := .slice (some ⟨bb, oo, none⟩) (ctTx t).ins.length p.1.2) (by rw [ea]) ?_
         refine juz ?_
         refine juy (y_indexAddr_slice (off := oo + i * 4) rfl rfl (by omega) (by omega) (by omega)) ?_
         refine juz ?_
         refine juy (y_load_old rfl (hold 3 _ rfl) (by simp)) ?_
         refine juy (y_seql rfl rfl) ?_
         refine ju_as (u := .bool false) (congrArg Value.bool (decide_eq_false (app_ne _))) ?_
         refine ju_nil ?_
         refine jq_then ?_
         refine jc_false rfl ?_
         refine jc_skip ?_
         refine jq_block ?_
         refine jq_then ?_
         refine jc_region ?_
         refine jz ?_
         refine jy (y_add_fits rfl rfl (by simp only [fits]; omega)) ?_
         refine jz ?_
         refine jl_nil ?_
         refine jq_round (i := i) (i + 1) ?_ ?_ ?_
         ·omega
         ·exact ⟨rfl, rfl, rfl, rfl, rfl, rfl, rfl, rfl, lk_int rfl (by omega), trivial⟩
         ·exact fun _ h => ⟨by omega, h.cast (by rw [hnx])⟩
         )
       ·first
        | (exfalso; omega)
        | (
         refine jy (y_pick_true rfl rfl) ?_
         refine jnt ?_
         refine jc_false rfl ?_
         refine jc_exit ?_
         refine jq_then_exit ?_
         refine jq_then_exit ?_
         refine jq_hit ?_
         refine jq_then ?_
         refine jc_seq ?_
         refine jc_world (fun _ h => h.part (F := []) .nil) ?_
         refine jc_drop [6] ?_
         refine jc_free (by kernel_rfl) Hp.stay ?_
         refine jn_y [] rfl rfl (fun w1 hw1 => And.intro rfl (y_loadAgg_old rfl rfl (hk.keep hw1) (by simp))) ?_
         refine jn_call [0] rfl rfl (fun w1 hw1 => And.intro rfl ⟨_, _, goes_func rfl, txright_any (ctTx t) p.1.1 p.1.2 p.2.1.1 p.2.1.2 p.2.2.1 p.2.2.2 w1 (k1.keep hw1) (k2.keep hw1) (k3.keep hw1) (by have := ctTx_len t; omega) (by have := ctTx_len t; omega) (by have := ctTx_len t; omega)⟩) ?_
         refine jn_y [] rfl rfl (fun w1 hw1 => And.intro rfl (y_loadAgg_old rfl rfl (hk.keep hw1) (by simp))) ?_
         refine jn_gcall [2] rfl rfl (fun w1 hw1 => And.intro rfl ⟨_, _, goes_func rfl, reftx_any (ctTx t) p.1.1 p.1.2 p.2.1.1 p.2.1.2 p.2.2.1 p.2.2.2 w1 (k1.keep hw1) (k2.keep hw1) (k3.keep hw1) (by have := ctTx_len t; omega) (by have := ctTx_len t; omega) (by have := ctTx_len t; omega)⟩) ?_
         refine jn_call [3] rfl rfl (fun w1 hw1 ra h108 => And.intro rfl ⟨_, _, goes_func rfl, rtxright_any (ctTx t) ra.1.1 ra.1.2 ra.2.1.1 ra.2.1.2 ra.2.2.1 ra.2.2.2 w1 hcf (ElAt.of_row (fun _ => rfl) rfl (h108 _ mem0)) (ElAt.of_row (fun _ => rfl) rfl (h108 _ mem1)) (ElAt.of_row (fun _ => rfl) rfl (h108 _ mem2)) (by have := ctTx_len t; omega) (by have := ctTx_len t; omega) (by have := ctTx_len t; omega)⟩) ?_
         refine jn_y [1, 4] rfl rfl (fun w1 hw1 => And.intro rfl (y_eql_bool rfl rfl)) ?_
         refine jn_as (u := .bool true) (congrArg Value.bool (beq_self_eq_true _)) ?_
         refine jn_y [5] rfl rfl (fun w1 hw1 => And.intro rfl (y_move rfl)) ?_
         refine jn_y [6] rfl rfl (fun w1 hw1 => And.intro rfl (y_loadAgg_old rfl rfl (hk.keep hw1) (by simp))) ?_
         refine jn_call [6, 7] rfl rfl (fun w1 hw1 => And.intro rfl ⟨_, _, goes_func rfl, txcore_any (ctTx t) p.1.1 p.1.2 p.2.1.1 p.2.1.2 p.2.2.1 p.2.2.2 w1 (k1.keep hw1) (k2.keep hw1) (k3.keep hw1) (by have := ctTx_len t; omega) (by have := ctTx_len t; omega) (by have := ctTx_len t; omega) hcf⟩) ?_
         refine jn_y [6] rfl rfl (fun w1 hw1 => And.intro rfl (y_loadAgg_old rfl rfl (hk.keep hw1) (by simp))) ?_
         refine jn_gcall [6, 9] rfl rfl (fun w1 hw1 => And.intro rfl ⟨_, _, goes_func rfl, reftx_any (ctTx t) p.1.1 p.1.2 p.2.1.1 p.2.1.2 p.2.2.1 p.2.2.2 w1 (k1.keep hw1) (k2.keep hw1) (k3.keep hw1) (by have := ctTx_len t; omega) (by have := ctTx_len t; omega) (by have := ctTx_len t; omega)⟩) ?_
         refine jn_call [6, 10] rfl rfl (fun w1 hw1 rb h115 => And.intro rfl ⟨_, _, goes_func rfl, rtxcore_any (ctTx t) rb.1.1 rb.1.2 rb.2.1.1 rb.2.1.2 rb.2.2.1 rb.2.2.2 w1 hcf (ElAt.of_row (fun _ => rfl) rfl (h115 _ mem0)) (ElAt.of_row (fun _ => rfl) rfl (h115 _ mem1)) (ElAt.of_row (fun _ => rfl) rfl (h115 _ mem2)) (by have := ctTx_len t; omega) (by have := ctTx_len t; omega) (by have := ctTx_len t; omega)⟩) ?_
         refine jn_y [6, 8, 11] rfl rfl (fun w1 hw1 => And.intro rfl (y_seql rfl rfl)) ?_
         refine jn_as (u := .bool true) (congrArg (fun b => Value.bool b) (decide_eq_true (rfl))) ?_
         refine jn_y [6, 12] rfl rfl (fun w1 hw1 => And.intro rfl (y_pick_true rfl rfl)) ?_
         refine jn_y [13] rfl rfl (fun w1 hw1 => And.intro rfl (y_move rfl)) ?_
         refine jn_y [14] rfl rfl (fun w1 hw1 => And.intro rfl (y_loadAgg_old rfl rfl (hk.keep hw1) (by simp))) ?_
         refine jn_call [14, 15] rfl rfl (fun w1 hw1 => And.intro rfl ⟨_, _, goes_func rfl, txid_any (ctTx t) p.1.1 p.1.2 p.2.1.1 p.2.1.2 p.2.2.1 p.2.2.2 w1 (k1.keep hw1) (k2.keep hw1) (k3.keep hw1) (by have := ctTx_len t; omega) (by have := ctTx_len t; omega) (by have := ctTx_len t; omega) hcf⟩) ?_
         refine jn_y [14] rfl rfl (fun w1 hw1 => And.intro rfl (y_loadAgg_old rfl rfl (hk.keep hw1) (by simp))) ?_
         refine jn_gcall [14, 17] rfl rfl (fun w1 hw1 => And.intro rfl ⟨_, _, goes_func rfl, reftx_any (ctTx t) p.1.1 p.1.2 p.2.1.1 p.2.1.2 p.2.2.1 p.2.2.2 w1 (k1.keep hw1) (k2.keep hw1) (k3.keep hw1) (by have := ctTx_len t; omega) (by have := ctTx_len t; omega) (by have := ctTx_len t; omega)⟩) ?_
         refine jn_call [14, 18] rfl rfl (fun w1 hw1 rc h123 => And.intro rfl ⟨_, _, goes_func rfl, rtxid_any (ctTx t) rc.1.1 rc.1.2 rc.2.1.1 rc.2.1.2 rc.2.2.1 rc.2.2.2 w1 hcf (ElAt.of_row (fun _ => rfl) rfl (h123 _ mem0)) (ElAt.of_row (fun _ => rfl) rfl (h123 _ mem1)) (ElAt.of_row (fun _ => rfl) rfl (h123 _ mem2)) (by have := ctTx_len t; omega) (by have := ctTx_len t; omega) (by have := ctTx_len t; omega)⟩) ?_
         refine jn_y [14, 16, 19] rfl rfl (fun w1 hw1 => And.intro rfl (y_seql rfl rfl)) ?_
         refine jn_as (u := .bool true) (congrArg (fun b => Value.bool b) (decide_eq_true (rfl))) ?_
         refine jn_y [14, 20] rfl rfl (fun w1 hw1 => And.intro rfl (y_pick_true rfl rfl)) ?_
         refine jn_y [21] rfl rfl (fun w1 hw1 => And.intro rfl (y_move rfl)) ?_
         refine jn_y [22] rfl rfl (fun w1 hw1 => And.intro rfl (y_loadAgg_old rfl rfl (hk.keep hw1) (by simp))) ?_
         refine jn_call [22, 23] rfl rfl (fun w1 hw1 => And.intro rfl ⟨_, _, goes_func rfl, txenc_any (ctTx t) p.1.1 p.1.2 p.2.1.1 p.2.1.2 p.2.2.1 p.2.2.2 w1 (k1.keep hw1) (k2.keep hw1) (k3.keep hw1) (by have := ctTx_len t; omega) (by have := ctTx_len t; omega) (by have := ctTx_len t; omega) hcf⟩) ?_
         refine jn_y [22] rfl rfl (fun w1 hw1 => And.intro rfl (y_loadAgg_old rfl rfl (hk.keep hw1) (by simp))) ?_
         refine jn_gcall [22, 25] rfl rfl (fun w1 hw1 => And.intro rfl ⟨_, _, goes_func rfl, reftx_any (ctTx t) p.1.1 p.1.2 p.2.1.1 p.2.1.2 p.2.2.1 p.2.2.2 w1 (k1.keep hw1) (k2.keep hw1) (k3.keep hw1) (by have := ctTx_len t; omega) (by have := ctTx_len t; omega) (by have := ctTx_len t; omega)⟩) ?_
         refine jn_call [22, 26] rfl rfl (fun w1 hw1 rd h131 => And.intro rfl ⟨_, _, goes_func rfl, rtxenc_any (ctTx t) rd.1.1 rd.1.2 rd.2.1.1 rd.2.1.2 rd.2.2.1 rd.2.2.2 w1 hcf (ElAt.of_row (fun _ => rfl) rfl (h131 _ mem0)) (ElAt.of_row (fun _ => rfl) rfl (h131 _ mem1)) (ElAt.of_row (fun _ => rfl) rfl (h131 _ mem2)) (by have := ctTx_len t; omega) (by have := ctTx_len t; omega) (by have := ctTx_len t; omega)⟩) ?_
         refine jn_y [22, 24, 27] rfl rfl (fun w1 hw1 => And.intro rfl (y_seql rfl rfl)) ?_
         refine jn_as (u := .bool true) (congrArg (fun b => Value.bool b) (decide_eq_true (rfl))) ?_
         refine jn_y [22, 28] rfl rfl (fun w1 hw1 => And.intro rfl (y_pick_true rfl rfl)) ?_
         refine jn_y [29] rfl rfl (fun w1 hw1 => And.intro rfl (y_move rfl)) ?_
         refine jn_y [30] rfl rfl (fun w1 hw1 => And.intro rfl (y_loadAgg_old rfl rfl (hk.keep hw1) (by simp))) ?_
         refine jn_y [30] rfl rfl (fun w1 hw1 => And.intro rfl (y_loadAgg_old rfl rfl (hm.keep hw1) (by simp))) ?_
         refine jn_call [30, 31, 32] rfl rfl (fun w1 hw1 => And.intro rfl ⟨_, _, goes_func rfl, cosame_any (ctTx t) (ctTx u) p.1.1 p.1.2 p.2.1.1 p.2.1.2 p.2.2.1 p.2.2.2 q.1.1 q.1.2 q.2.1.1 q.2.1.2 q.2.2.1 q.2.2.2 w1 (k1.keep hw1) (k2.keep hw1) (k3.keep hw1) (m1.keep hw1) (m2.keep hw1) (m3.keep hw1) (by have := ctTx_len t; omega) (by have := ctTx_len t; omega) (by have := ctTx_len t; omega) (by have := ctTx_len u; omega) (by have := ctTx_len u; omega) (by have := ctTx_len u; omega)⟩) ?_
         refine jn_y [30] rfl rfl (fun w1 hw1 => And.intro rfl (y_loadAgg_old rfl rfl (hk.keep hw1) (by simp))) ?_
         refine jn_gcall [30, 34] rfl rfl (fun w1 hw1 => And.intro rfl ⟨_, _, goes_func rfl, reftx_any (ctTx t) p.1.1 p.1.2 p.2.1.1 p.2.1.2 p.2.2.1 p.2.2.2 w1 (k1.keep hw1) (k2.keep hw1) (k3.keep hw1) (by have := ctTx_len t; omega) (by have := ctTx_len t; omega) (by have := ctTx_len t; omega)⟩) ?_
         refine jn_y [30] rfl rfl (fun w1 hw1 => And.intro rfl (y_loadAgg_old rfl rfl (hm.keep hw1) (by simp))) ?_
         refine jn_gcall [30, 36] rfl rfl (fun w1 hw1 => And.intro rfl ⟨_, _, goes_func rfl, reftx_any (ctTx u) q.1.1 q.1.2 q.2.1.1 q.2.1.2 q.2.2.1 q.2.2.2 w1 (m1.keep hw1) (m2.keep hw1) (m3.keep hw1) (by have := ctTx_len u; omega) (by have := ctTx_len u; omega) (by have := ctTx_len u; omega)⟩) ?_
         refine jn_call [30, 35, 37] rfl rfl (fun w1 hw1 re h140 rf h142 => And.intro rfl ⟨_, _, goes_func rfl, rcosame_any (ctTx t) re.1.1 re.1.2 re.2.1.1 re.2.1.2 re.2.2.1 re.2.2.2 (ctTx u) rf.1.1 rf.1.2 rf.2.1.1 rf.2.1.2 rf.2.2.1 rf.2.2.2 w1 (ElAt.of_row (fun _ => rfl) rfl (h140 _ mem0)) (ElAt.of_row (fun _ => rfl) rfl (h140 _ mem1)) (ElAt.of_row (fun _ => rfl) rfl (h140 _ mem2)) (ElAt.of_row (fun _ => rfl) rfl (h142 _ mem0)) (ElAt.of_row (fun _ => rfl) rfl (h142 _ mem1)) (ElAt.of_row (fun _ => rfl) rfl (h142 _ mem2)) (by have := ctTx_len t; omega) (by have := ctTx_len t; omega) (by have := ctTx_len t; omega) (by have := ctTx_len u; omega) (by have := ctTx_len u; omega) (by have := ctTx_len u; omega)⟩) ?_
         refine jn_y [30, 33, 38] rfl rfl (fun w1 hw1 => And.intro rfl (y_eql_bool rfl rfl)) ?_
         refine jn_as (u := .bool true) (congrArg Value.bool (beq_self_eq_true _)) ?_
         refine jn_y [30, 39] rfl rfl (fun w1 hw1 => And.intro rfl (y_pick_true rfl rfl)) ?_
         refine jn_y [40] rfl rfl (fun w1 hw1 => And.intro rfl (y_move rfl)) ?_
         refine jn_y [41] rfl rfl (fun w1 hw1 => And.intro rfl (y_loadAgg_old rfl rfl (h5.keep hw1) (by simp))) ?_
         refine jn_call [41, 42] rfl rfl (fun w1 hw1 => And.intro rfl ⟨_, _, goes_func rfl, cname_any (⟨cutS pt.tx 40, pt.out⟩ : Pnt) w1 (Nat.le_trans hpc (by decide))⟩) ?_
         refine jn_y [41] rfl rfl (fun w1 hw1 => And.intro rfl (y_loadAgg_old rfl rfl (h5.keep hw1) (by simp))) ?_
         refine jn_call [41, 44] rfl rfl (fun w1 hw1 => And.intro rfl ⟨_, _, goes_func rfl, rcname_any (⟨cutS pt.tx 40, pt.out⟩ : Pnt) w1 (Nat.le_trans hpc (by decide))⟩) ?_
         refine jn_y [41, 43, 45] rfl rfl (fun w1 hw1 => And.intro rfl (y_seql rfl rfl)) ?_
         refine jn_as (u := .bool true) (congrArg (fun b => Value.bool b) (decide_eq_true (rfl))) ?_
         refine jn_y [41, 46] rfl rfl (fun w1 hw1 => And.intro rfl (y_pick_true rfl rfl)) ?_
         refine jn_y [47] rfl rfl (fun w1 hw1 => And.intro rfl (y_move rfl)) ?_
         refine jn_y [48] rfl rfl (fun w1 hw1 => And.intro rfl (y_move rfl)) ?_
         refine jn_y [48] rfl rfl (fun w1 hw1 => And.intro rfl (y_move rfl)) ?_
         refine jn_y [48, 49, 50] rfl rfl (fun w1 hw1 => And.intro rfl (y_eql rfl rfl)) ?_
         refine jn_as (u := .bool true) (congrArg Value.bool (decide_eq_true rfl)) ?_
         refine jn_y [48, 51] rfl rfl (fun w1 hw1 => And.intro rfl (y_pick_true rfl rfl)) ?_
         refine jn_y [52] rfl rfl (fun w1 hw1 => And.intro rfl (y_move rfl)) ?_
         refine jn_y [53] rfl rfl (fun w1 hw1 => And.intro rfl (y_move rfl)) ?_
         refine jn_y [53] rfl rfl (fun w1 hw1 => And.intro rfl (y_move rfl)) ?_
         refine jn_y [53, 54, 55] rfl rfl (fun w1 hw1 => And.intro rfl (y_eql rfl rfl)) ?_
         refine jn_as (u := .bool true) (congrArg Value.bool (decide_eq_true rfl)) ?_
         refine jn_y [53, 56] rfl rfl (fun w1 hw1 => And.intro rfl (y_pick_true rfl rfl)) ?_
         refine jn_y [57] rfl rfl (fun w1 hw1 => And.intro rfl (y_move rfl)) ?_
         refine jn_call [58] rfl rfl (fun w1 hw1 => And.intro rfl ⟨_, _, goes_func rfl, fixed9_any w1⟩) ?_
         refine jn_y [58, 59] rfl rfl (fun w1 hw1 => And.intro rfl (y_pick_true rfl rfl)) ?_
         refine jn_y [60] rfl rfl (fun w1 hw1 => And.intro rfl (y_assign rfl)) ?_
         refine jn_nil [61] (by decide) (fun w1 hw1 => jq_at hw1 ?_)
         refine jq_then ?_
         refine jc_ret ?_
         refine jq_ret1 rfl rfl ?_
         exact fun _ hw => ⟨rfl, (hbx.ch.then hw.ch)⟩
         )
       )
     ·first
      | (exfalso; omega)
      | (
       refine jz ?_
       refine jsk ?_
       refine jsk ?_
       refine jsk ?_
       refine jsk ?_
       refine jsk ?_
       refine jy (y_pick_false rfl rfl) ?_
       refine jnt ?_
       refine jc_false rfl ?_
       refine jc_exit ?_
       refine jq_then_exit ?_
       refine jq_then_exit ?_
       refine jq_hit ?_
       refine jq_then ?_
       refine jc_seq ?_
       refine jc_world (fun _ h => h.part (F := []) .nil) ?_
       refine jc_drop [6] ?_
       refine jc_free (by kernel_rfl) Hp.stay ?_
       refine jn_y [] rfl rfl (fun w1 hw1 => And.intro rfl (y_loadAgg_old rfl rfl (hk.keep hw1) (by simp))) ?_
       refine jn_call [0] rfl rfl (fun w1 hw1 => And.intro rfl ⟨_, _, goes_func rfl, txright_any (ctTx t) p.1.1 p.1.2 p.2.1.1 p.2.1.2 p.2.2.1 p.2.2.2 w1 (k1.keep hw1) (k2.keep hw1) (k3.keep hw1) (by have := ctTx_len t; omega) (by have := ctTx_len t; omega) (by have := ctTx_len t; omega)⟩) ?_
       refine jn_y [] rfl rfl (fun w1 hw1 => And.intro rfl (y_loadAgg_old rfl rfl (hk.keep hw1) (by simp))) ?_
       refine jn_gcall [2] rfl rfl (fun w1 hw1 => And.intro rfl ⟨_, _, goes_func rfl, reftx_any (ctTx t) p.1.1 p.1.2 p.2.1.1 p.2.1.2 p.2.2.1 p.2.2.2 w1 (k1.keep hw1) (k2.keep hw1) (k3.keep hw1) (by have := ctTx_len t; omega) (by have := ctTx_len t; omega) (by have := ctTx_len t; omega)⟩) ?_
       refine jn_call [3] rfl rfl (fun w1 hw1 ra h108 => And.intro rfl ⟨_, _, goes_func rfl, rtxright_any (ctTx t) ra.1.1 ra.1.2 ra.2.1.1 ra.2.1.2 ra.2.2.1 ra.2.2.2 w1 hcf (ElAt.of_row (fun _ => rfl) rfl (h108 _ mem0)) (ElAt.of_row (fun _ => rfl) rfl (h108 _ mem1)) (ElAt.of_row (fun _ => rfl) rfl (h108 _ mem2)) (by have := ctTx_len t; omega) (by have := ctTx_len t; omega) (by have := ctTx_len t; omega)⟩) ?_
       refine jn_y [1, 4] rfl rfl (fun w1 hw1 => And.intro rfl (y_eql_bool rfl rfl)) ?_
       refine jn_as (u := .bool true) (congrArg Value.bool (beq_self_eq_true _)) ?_
       refine jn_y [5] rfl rfl (fun w1 hw1 => And.intro rfl (y_move rfl)) ?_
       refine jn_y [6] rfl rfl (fun w1 hw1 => And.intro rfl (y_loadAgg_old rfl rfl (hk.keep hw1) (by simp))) ?_
       refine jn_call [6, 7] rfl rfl (fun w1 hw1 => And.intro rfl ⟨_, _, goes_func rfl, txcore_any (ctTx t) p.1.1 p.1.2 p.2.1.1 p.2.1.2 p.2.2.1 p.2.2.2 w1 (k1.keep hw1) (k2.keep hw1) (k3.keep hw1) (by have := ctTx_len t; omega) (by have := ctTx_len t; omega) (by have := ctTx_len t; omega) hcf⟩) ?_
       refine jn_y [6] rfl rfl (fun w1 hw1 => And.intro rfl (y_loadAgg_old rfl rfl (hk.keep hw1) (by simp))) ?_
       refine jn_gcall [6, 9] rfl rfl (fun w1 hw1 => And.intro rfl ⟨_, _, goes_func rfl, reftx_any (ctTx t) p.1.1 p.1.2 p.2.1.1 p.2.1.2 p.2.2.1 p.2.2.2 w1 (k1.keep hw1) (k2.keep hw1) (k3.keep hw1) (by have := ctTx_len t; omega) (by have := ctTx_len t; omega) (by have := ctTx_len t; omega)⟩) ?_
       refine jn_call [6, 10] rfl rfl (fun w1 hw1 rb h115 => And.intro rfl ⟨_, _, goes_func rfl, rtxcore_any (ctTx t) rb.1.1 rb.1.2 rb.2.1.1 rb.2.1.2 rb.2.2.1 rb.2.2.2 w1 hcf (ElAt.of_row (fun _ => rfl) rfl (h115 _ mem0)) (ElAt.of_row (fun _ => rfl) rfl (h115 _ mem1)) (ElAt.of_row (fun _ => rfl) rfl (h115 _ mem2)) (by have := ctTx_len t; omega) (by have := ctTx_len t; omega) (by have := ctTx_len t; omega)⟩) ?_
       refine jn_y [6, 8, 11] rfl rfl (fun w1 hw1 => And.intro rfl (y_seql rfl rfl)) ?_
       refine jn_as (u := .bool true) (congrArg (fun b => Value.bool b) (decide_eq_true (rfl))) ?_
       refine jn_y [6, 12] rfl rfl (fun w1 hw1 => And.intro rfl (y_pick_true rfl rfl)) ?_
       refine jn_y [13] rfl rfl (fun w1 hw1 => And.intro rfl (y_move rfl)) ?_
       refine jn_y [14] rfl rfl (fun w1 hw1 => And.intro rfl (y_loadAgg_old rfl rfl (hk.keep hw1) (by simp))) ?_
       refine jn_call [14, 15] rfl rfl (fun w1 hw1 => And.intro rfl ⟨_, _, goes_func rfl, txid_any (ctTx t) p.1.1 p.1.2 p.2.1.1 p.2.1.2 p.2.2.1 p.2.2.2 w1 (k1.keep hw1) (k2.keep hw1) (k3.keep hw1) (by have := ctTx_len t; omega) (by have := ctTx_len t; omega) (by have := ctTx_len t; omega) hcf⟩) ?_
       refine jn_y [14] rfl rfl (fun w1 hw1 => And.intro rfl (y_loadAgg_old rfl rfl (hk.keep hw1) (by simp))) ?_
       refine jn_gcall [14, 17] rfl rfl (fun w1 hw1 => And.intro rfl ⟨_, _, goes_func rfl, reftx_any (ctTx t) p.1.1 p.1.2 p.2.1.1 p.2.1.2 p.2.2.1 p.2.2.2 w1 (k1.keep hw1) (k2.keep hw1) (k3.keep hw1) (by have := ctTx_len t; omega) (by have := ctTx_len t; omega) (by have := ctTx_len t; omega)⟩) ?_
       refine jn_call [14, 18] rfl rfl (fun w1 hw1 rc h123 => And.intro rfl ⟨_, _, goes_func rfl, rtxid_any (ctTx t) rc.1.1 rc.1.2 rc.2.1.1 rc.2.1.2 rc.2.2.1 rc.2.2.2 w1 hcf (ElAt.of_row (fun _ => rfl) rfl (h123 _ mem0)) (ElAt.of_row (fun _ => rfl) rfl (h123 _ mem1)) (ElAt.of_row (fun _ => rfl) rfl (h123 _ mem2)) (by have := ctTx_len t; omega) (by have := ctTx_len t; omega) (by have := ctTx_len t; omega)⟩) ?_
       refine jn_y [14, 16, 19] rfl rfl (fun w1 hw1 => And.intro rfl (y_seql rfl rfl)) ?_
       refine jn_as (u := .bool true) (congrArg (fun b => Value.bool b) (decide_eq_true (rfl))) ?_
       refine jn_y [14, 20] rfl rfl (fun w1 hw1 => And.intro rfl (y_pick_true rfl rfl)) ?_
       refine jn_y [21] rfl rfl (fun w1 hw1 => And.intro rfl (y_move rfl)) ?_
       refine jn_y [22] rfl rfl (fun w1 hw1 => And.intro rfl (y_loadAgg_old rfl rfl (hk.keep hw1) (by simp))) ?_
       refine jn_call [22, 23] rfl rfl (fun w1 hw1 => And.intro rfl ⟨_, _, goes_func rfl, txenc_any (ctTx t) p.1.1 p.1.2 p.2.1.1 p.2.1.2 p.2.2.1 p.2.2.2 w1 (k1.keep hw1) (k2.keep hw1) (k3.keep hw1) (by have := ctTx_len t; omega) (by have := ctTx_len t; omega) (by have := ctTx_len t; omega) hcf⟩) ?_
       refine jn_y [22] rfl rfl (fun w1 hw1 => And.intro rfl (y_loadAgg_old rfl rfl (hk.keep hw1) (by simp))) ?_
       refine jn_gcall [22, 25] rfl rfl (fun w1 hw1 => And.intro rfl ⟨_, _, goes_func rfl, reftx_any (ctTx t) p.1.1 p.1.2 p.2.1.1 p.2.1.2 p.2.2.1 p.2.2.2 w1 (k1.keep hw1) (k2.keep hw1) (k3.keep hw1) (by have := ctTx_len t; omega) (by have := ctTx_len t; omega) (by have := ctTx_len t; omega)⟩) ?_
       refine jn_call [22, 26] rfl rfl (fun w1 hw1 rd h131 => And.intro rfl ⟨_, _, goes_func rfl, rtxenc_any (ctTx t) rd.1.1 rd.1.2 rd.2.1.1 rd.2.1.2 rd.2.2.1 rd.2.2.2 w1 hcf (ElAt.of_row (fun _ => rfl) rfl (h131 _ mem0)) (ElAt.of_row (fun _ => rfl) rfl (h131 _ mem1)) (ElAt.of_row (fun _ => rfl) rfl (h131 _ mem2)) (by have := ctTx_len t; omega) (by have := ctTx_len t; omega) (by have := ctTx_len t; omega)⟩) ?_
       refine jn_y [22, 24, 27] rfl rfl (fun w1 hw1 => And.intro rfl (y_seql rfl rfl)) ?_
       refine jn_as (u := .bool true) (congrArg (fun b => Value.bool b) (decide_eq_true (rfl))) ?_
       refine jn_y [22, 28] rfl rfl (fun w1 hw1 => And.intro rfl (y_pick_true rfl rfl)) ?_
       refine jn_y [29] rfl rfl (fun w1 hw1 => And.intro rfl (y_move rfl)) ?_
       refine jn_y [30] rfl rfl (fun w1 hw1 => And.intro rfl (y_loadAgg_old rfl rfl (hk.keep hw1) (by simp))) ?_
       refine jn_y [30] rfl rfl (fun w1 hw1 => And.intro rfl (y_loadAgg_old rfl rfl (hm.keep hw1) (by simp))) ?_
       refine jn_call [30, 31, 32] rfl rfl (fun w1 hw1 => And.intro rfl ⟨_, _, goes_func rfl, cosame_any (ctTx t) (ctTx u) p.1.1 p.1.2 p.2.1.1 p.2.1.2 p.2.2.1 p.2.2.2 q.1.1 q.1.2 q.2.1.1 q.2.1.2 q.2.2.1 q.2.2.2 w1 (k1.keep hw1) (k2.keep hw1) (k3.keep hw1) (m1.keep hw1) (m2.keep hw1) (m3.keep hw1) (by have := ctTx_len t; omega) (by have := ctTx_len t; omega) (by have := ctTx_len t; omega) (by have := ctTx_len u; omega) (by have := ctTx_len u; omega) (by have := ctTx_len u; omega)⟩) ?_
       refine jn_y [30] rfl rfl (fun w1 hw1 => And.intro rfl (y_loadAgg_old rfl rfl (hk.keep hw1) (by simp))) ?_
       refine jn_gcall [30, 34] rfl rfl (fun w1 hw1 => And.intro rfl ⟨_, _, goes_func rfl, reftx_any (ctTx t) p.1.1 p.1.2 p.2.1.1 p.2.1.2 p.2.2.1 p.2.2.2 w1 (k1.keep hw1) (k2.keep hw1) (k3.keep hw1) (by have := ctTx_len t; omega) (by have := ctTx_len t; omega) (by have := ctTx_len t; omega)⟩) ?_
       refine jn_y [30] rfl rfl (fun w1 hw1 => And.intro rfl (y_loadAgg_old rfl rfl (hm.keep hw1) (by simp))) ?_
       refine jn_gcall [30, 36] rfl rfl (fun w1 hw1 => And.intro rfl ⟨_, _, goes_func rfl, reftx_any (ctTx u) q.1.1 q.1.2 q.2.1.1 q.2.1.2 q.2.2.1 q.2.2.2 w1 (m1.keep hw1) (m2.keep hw1) (m3.keep hw1) (by have := ctTx_len u; omega) (by have := ctTx_len u; omega) (by have := ctTx_len u; omega)⟩) ?_
       refine jn_call [30, 35, 37] rfl rfl (fun w1 hw1 re h140 rf h142 => And.intro rfl ⟨_, _, goes_func rfl, rcosame_any (ctTx t) re.1.1 re.1.2 re.2.1.1 re.2.1.2 re.2.2.1 re.2.2.2 (ctTx u) rf.1.1 rf.1.2 rf.2.1.1 rf.2.1.2 rf.2.2.1 rf.2.2.2 w1 (ElAt.of_row (fun _ => rfl) rfl (h140 _ mem0)) (ElAt.of_row (fun _ => rfl) rfl (h140 _ mem1)) (ElAt.of_row (fun _ => rfl) rfl (h140 _ mem2)) (ElAt.of_row (fun _ => rfl) rfl (h142 _ mem0)) (ElAt.of_row (fun _ => rfl) rfl (h142 _ mem1)) (ElAt.of_row (fun _ => rfl) rfl (h142 _ mem2)) (by have := ctTx_len t; omega) (by have := ctTx_len t; omega) (by have := ctTx_len t; omega) (by have := ctTx_len u; omega) (by have := ctTx_len u; omega) (by have := ctTx_len u; omega)⟩) ?_
       refine jn_y [30, 33, 38] rfl rfl (fun w1 hw1 => And.intro rfl (y_eql_bool rfl rfl)) ?_
       refine jn_as (u := .bool true) (congrArg Value.bool (beq_self_eq_true _)) ?_
       refine jn_y [30, 39] rfl rfl (fun w1 hw1 => And.intro rfl (y_pick_true rfl rfl)) ?_
       refine jn_y [40] rfl rfl (fun w1 hw1 => And.intro rfl (y_move rfl)) ?_
       refine jn_y [41] rfl rfl (fun w1 hw1 => And.intro rfl (y_loadAgg_old rfl rfl (h5.keep hw1) (by simp))) ?_
       refine jn_call [41, 42] rfl rfl (fun w1 hw1 => And.intro rfl ⟨_, _, goes_func rfl, cname_any (⟨cutS pt.tx 40, pt.out⟩ : Pnt) w1 (Nat.le_trans hpc (by decide))⟩) ?_
       refine jn_y [41] rfl rfl (fun w1 hw1 => And.intro rfl (y_loadAgg_old rfl rfl (h5.keep hw1) (by simp))) ?_
       refine jn_call [41, 44] rfl rfl (fun w1 hw1 => And.intro rfl ⟨_, _, goes_func rfl, rcname_any (⟨cutS pt.tx 40, pt.out⟩ : Pnt) w1 (Nat.le_trans hpc (by decide))⟩) ?_
       refine jn_y [41, 43, 45] rfl rfl (fun w1 hw1 => And.intro rfl (y_seql rfl rfl)) ?_
       refine jn_as (u := .bool true) (congrArg (fun b => Value.bool b) (decide_eq_true (rfl))) ?_
       refine jn_y [41, 46] rfl rfl (fun w1 hw1 => And.intro rfl (y_pick_true rfl rfl)) ?_
       refine jn_y [47] rfl rfl (fun w1 hw1 => And.intro rfl (y_move rfl)) ?_
       refine jn_y [48] rfl rfl (fun w1 hw1 => And.intro rfl (y_move rfl)) ?_
       refine jn_y [48] rfl rfl (fun w1 hw1 => And.intro rfl (y_move rfl)) ?_
       refine jn_y [48, 49, 50] rfl rfl (fun w1 hw1 => And.intro rfl (y_eql rfl rfl)) ?_
       refine jn_as (u := .bool true) (congrArg Value.bool (decide_eq_true rfl)) ?_
       refine jn_y [48, 51] rfl rfl (fun w1 hw1 => And.intro rfl (y_pick_true rfl rfl)) ?_
       refine jn_y [52] rfl rfl (fun w1 hw1 => And.intro rfl (y_move rfl)) ?_
       refine jn_y [53] rfl rfl (fun w1 hw1 => And.intro rfl (y_move rfl)) ?_
       refine jn_y [53] rfl rfl (fun w1 hw1 => And.intro rfl (y_move rfl)) ?_
       refine jn_y [53, 54, 55] rfl rfl (fun w1 hw1 => And.intro rfl (y_eql rfl rfl)) ?_
       refine jn_as (u := .bool true) (congrArg Value.bool (decide_eq_true rfl)) ?_
       refine jn_y [53, 56] rfl rfl (fun w1 hw1 => And.intro rfl (y_pick_true rfl rfl)) ?_
       refine jn_y [57] rfl rfl (fun w1 hw1 => And.intro rfl (y_move rfl)) ?_
       refine jn_call [58] rfl rfl (fun w1 hw1 => And.intro rfl ⟨_, _, goes_func rfl, fixed9_any w1⟩) ?_
       refine jn_y [58, 59] rfl rfl (fun w1 hw1 => And.intro rfl (y_pick_true rfl rfl)) ?_
       refine jn_y [60] rfl rfl (fun w1 hw1 => And.intro rfl (y_assign rfl)) ?_
       refine jn_nil [61] (by decide) (fun w1 hw1 => jq_at hw1 ?_)
       refine jq_then ?_
       refine jc_ret ?_
       refine jq_ret1 rfl rfl ?_
       exact fun _ hw => ⟨rfl, (hbx.ch.then hw.ch)⟩
       )
    )

end Go.Proofs.YtamlleachfngeaaGreat
