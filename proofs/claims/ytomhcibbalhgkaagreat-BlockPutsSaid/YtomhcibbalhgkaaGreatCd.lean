/- The walks of package coin, part four: names, bytes, sums. Written by program (walk.py) out of a table of contracts and invariants. -/
import Derived.Test.YtomhcibbalhgkaaGreatCc
namespace Go.Proofs.YtomhcibbalhgkaaGreat
open Go.RowKit
set_option maxRecDepth 100000
set_option maxHeartbeats 2000000
set_option linter.unusedVariables false
set_option linter.unusedSimpArgs false
def strTx : ByteArray := ⟨#[116, 120]⟩
def strLock : ByteArray := ⟨#[108, 111, 99, 107]⟩
def txID (t : Trx) : ByteArray := if txCore t = ⟨#[]⟩ then ⟨#[]⟩ else tagS strTx [txCore t]
def pntName (p : Pnt) : ByteArray := tagS strLock [p.tx, oneB p.out]
theorem all1s {a : ByteArray} {n : Nat} (h : a.size ≤ n) : ∀ p ∈ [a], p.size ≤ n := by intro p hp; rw [List.mem_singleton.1 hp]; exact h
theorem wle_sig {w : WS} {x : Inp} {a K : Nat} (h : w.1.size + (4098 + a) ≤ K) : (putSig w x).1.size + a ≤ K := by
  unfold putSig
  apply wle_blob
  omega
theorem txSigs_size (t : Trx) {l : List Inp} (hl : l.length ≤ 4) : (l.foldl putSig (wBlob w0 (txCore t))).1.size + 0 ≤ 100000 := by
  refine wle_fold (f := putSig) (n := 4098) (fun w x a K h => wle_sig h) l ?_
  apply wle_blob
  have hw00 : w0.1.size = 0 := rfl
  omega
theorem pfEnc_size (p : Pf) : (pfEnc p).size ≤ 100000 := by
  unfold pfEnc
  split
  · rename_i h
    have hr := pfRight_iff.1 h
    refine Nat.le_trans (wText_size _) ?_
    have := pfHead_size p
    exact wle0 (wle_wins (by omega))
  · exact Nat.zero_le _
theorem Ints.of_row {w : World} {ad : Option Addr} {n c T : Nat} {k : IntKind} {xs : List Int} (hn : n = xs.length) (h : HA.ok w (.row ad n c T 1 (xs.map (Value.int k)))) : Ints w ad k xs := by
  intro i hi
  obtain ⟨b, rfl⟩ := row_some h (by omega)
  exact ⟨b, 0, rfl, by rw [Nat.zero_add]; exact row_cell h (by rw [List.getElem?_map, List.getElem?_eq_getElem hi]; rfl)⟩
theorem sum_take {l : List Int} {i : Nat} (h : i < l.length) : (l.take (i + 1)).sum = (l.take i).sum + l[i] := by
  rw [List.take_succ_eq_append_getElem h, List.sum_append]
  simp
theorem sum_nonneg : ∀ {l : List Int}, (∀ n ∈ l, fits .u64 n) → 0 ≤ l.sum
  | [], _ => Int.le_refl 0
  | n :: l, h => by
    have h1 := h n (.head _)
    have h2 := sum_nonneg (l := l) fun m hm => h m (.tail _ hm)
    simp only [fits] at h1
    rw [List.sum_cons]
    omega
theorem sum_part {l : List Int} (h : ∀ n ∈ l, fits .u64 n) (i : Nat) : 0 ≤ (l.take i).sum ∧ (l.take i).sum ≤ l.sum := by
  have h1 := sum_nonneg (l := l.take i) fun n hn => h n (List.mem_of_mem_take hn)
  have h2 := sum_nonneg (l := l.drop i) fun n hn => h n (List.mem_of_mem_drop hn)
  have h3 : l.sum = (l.take i).sum + (l.drop i).sum := by rw [← List.sum_append, List.take_append_drop]
  omega
def sumA (l : List Int) : Int := if 18446744073709551616 ≤ l.sum then 0 else l.sum
def sumE (l : List Int) : Int := if 18446744073709551616 ≤ l.sum then 2 else 0

theorem txid_any (t : Trx) (a1 : Option Addr) (c1 : Nat) (a2 : Option Addr) (c2 : Nat) (a3 : Option Addr) (c3 : Nat) (w : World) (h1 : ElAt w a1 4 (t.ins.map Inp.c)) (h2 : ElAt w a2 9 (t.outs.map Oup.c)) (h3 : ElAt w a3 10 (t.pf.wins.map Wn.c)) (l1 : t.ins.length ≤ 1000000000) (l2 : t.outs.length ≤ 1000000000) (l3 : t.pf.wins.length ≤ 1000000000) (hf : t.Fit) :
  Calls Tryz.prog 31 #[.agg (Trx.c t a1 c1 a2 c2 a3 c3).toArray] w fun e w' => e = .returned (.string (txID t)) ∧ Ch [] w w' := by
 refine calls_of (n := 11) (E := [(0, .agg (Trx.c t a1 c1 a2 c2 a3 c3).toArray)]) (W := Hp w [] []) Tryz.func31 rfl rfl (Nat.le_of_ble_eq_true rfl) rfl (Hp.nil _ _) ?_
 refine jsr ?_
 refine jl_m rfl (by decide) rfl (m_box rfl rfl) (fun b1 => ?_)
 refine jz ?_
 refine jnt ?_
 refine jsr ?_
 refine jz ?_
 refine jpc (goes_func rfl) (fun w1 hw1 => txcore_any t a1 c1 a2 c2 a3 c3 w1 (h1.keep hw1) (h2.keep hw1) (h3.keep hw1) l1 l2 l3 hf) ?_
 refine jz ?_
 refine jnt ?_
 refine jc_seq ?_
 refine jsr ?_
 refine jz ?_
 refine jy (y_seql rfl rfl) ?_
 refine jl_prop (fun h7 => ?_) (fun h7 => ?_)
 ·skip
  refine jnt ?_
  refine jc_true rfl ?_
  refine jsr ?_
  refine jz ?_
  refine jnt ?_
  refine jc_ret ?_
  refine jq_then_ret ?_
  refine jq_ret1 rfl rfl ?_
  exact fun _ hw => ⟨by unfold txID; rw [if_pos (by assumption)], hw.ch⟩
 ·skip
  refine jnt ?_
  refine jc_false rfl ?_
  refine jc_skip ?_
  refine jq_then ?_
  refine jsr ?_
  refine jz ?_
  refine jl_m rfl (by decide) rfl (m_buildSlice (by decide) (Built.cell rfl rfl rfl (by repeat constructor) Built.nil)) (fun b9 => ?_)
  refine jpc (goes_func rfl) (fun w1 hw1 => tag_any strTx (some ⟨b9, 0, none⟩) 1 [txCore t] w1 (by decide) (by simp) (all1 (by have := txCore_size (t := t); omega)) (Strs.of_row (hw1.get mem0))) ?_
  refine jz ?_
  refine jnt ?_
  refine jc_ret ?_
  refine jq_ret1 rfl rfl ?_
  exact fun _ hw => ⟨by unfold txID; rw [if_neg (by assumption)], hw.ch⟩

theorem txenc_any (t : Trx) (a1 : Option Addr) (c1 : Nat) (a2 : Option Addr) (c2 : Nat) (a3 : Option Addr) (c3 : Nat) (w : World) (h1 : ElAt w a1 4 (t.ins.map Inp.c)) (h2 : ElAt w a2 9 (t.outs.map Oup.c)) (h3 : ElAt w a3 10 (t.pf.wins.map Wn.c)) (l1 : t.ins.length ≤ 1000000000) (l2 : t.outs.length ≤ 1000000000) (l3 : t.pf.wins.length ≤ 1000000000) (hf : t.Fit) :
  Calls Tryz.prog 39 #[.agg (Trx.c t a1 c1 a2 c2 a3 c3).toArray] w fun e w' => e = .returned (.string (txEnc t)) ∧ Ch [] w w' := by
 refine calls_of (n := 28) (E := [(0, .agg (Trx.c t a1 c1 a2 c2 a3 c3).toArray)]) (W := Hp w [] []) Tryz.func39 rfl rfl (Nat.le_of_ble_eq_true rfl) rfl (Hp.nil _ _) ?_
 refine jsr ?_
 refine jl_m rfl (by decide) rfl (m_box rfl rfl) (fun b1 => ?_)
 refine jz ?_
 refine jnt ?_
 refine jc_seq ?_
 refine jsr ?_
 refine jz ?_
 refine jpc (goes_func rfl) (fun w1 hw1 => txright_any t a1 c1 a2 c2 a3 c3 w1 (h1.keep hw1) (h2.keep hw1) (h3.keep hw1) l1 l2 l3) ?_
 refine jl_bool (fun h7 => ?_) (fun h7 => ?_)
 ·skip
  have hrb : txRight t = true := by assumption
  obtain ⟨r1, r2, r3, r4, r5, r6⟩ := txRight_iff.1 hrb
  have hcs := txCore_size (t := t)
  have hps := pfEnc_size t.pf
  refine jz ?_
  refine jnt ?_
  refine jc_false rfl ?_
  refine jc_skip ?_
  refine jq_then ?_
  refine jsr ?_
  refine jl_m rfl (by decide) rfl (m_alloc) (fun b3 => ?_)
  refine jnt ?_
  refine jsr ?_
  refine jz ?_
  refine jpc (goes_func rfl) (fun w1 hw1 => txcore_any t a1 c1 a2 c2 a3 c3 w1 (h1.keep hw1) (h2.keep hw1) (h3.keep hw1) l1 l2 l3 hf) ?_
  refine juc (goes_func rfl) (fun w1 hw1 => wblob_any b3 w0 (txCore t) (by omega) w1 (by decide) hw1) ?_
  refine jnt ?_
  refine jc_seq ?_
  refine jsr ?_
  refine jz ?_
  refine jz ?_
  refine jy (y_len_slice rfl) ?_
  refine jz ?_
  refine jnt ?_
  refine jc_block ?_
  refine jc_loop (fun (i : Nat) => [(1, .pointer (some ⟨b1, 0, none⟩)), (3, .pointer (some ⟨b3, 0, none⟩)), (13, .slice a1 t.ins.length c1), (14, .int .i64 t.ins.length), (15, .int .i64 (i : Nat))]) (fun (i : Nat) => fun w' => i ≤ t.ins.length ∧ Hp w [] [.cells b3 [.string ((t.ins.take i).foldl putSig (wBlob w0 (txCore t))).1, .int .i64 ((t.ins.take i).foldl putSig (wBlob w0 (txCore t))).2], .cells b1 (Trx.c t a1 c1 a2 c2 a3 c3)] w') (fun (i : Nat) => t.ins.length - i) 0 ?_ ?_ ?_
  ·exact ⟨rfl, rfl, rfl, rfl, rfl, trivial⟩
  ·exact fun _ h => ⟨by omega, h⟩
  ·intro i
   refine jc_and (fun hi => ?_)
   refine jsr ?_
   refine jy (y_lss rfl rfl) ?_
   refine jl_prop (fun h16 => ?_) (fun h16 => ?_)
   ·first
    | (exfalso; omega)
    | (
     have hlt : i < t.ins.length := by omega
     have hfx := hf.ins _ (List.getElem_mem hlt)
     have hrx := r1 _ (List.getElem_mem hlt)
     obtain ⟨bb, oo, ea, hold⟩ := h1.get hlt
     subst ea
     generalize hxe : t.ins[i]'hlt = x at *
     have hrx2 := inFits_iff.1 hrx
     have hzs := txSigs_size t (l := t.ins.take i) (by rw [List.length_take]; omega)
     generalize hz : (t.ins.take i).foldl putSig (wBlob w0 (txCore t)) = z at *
     refine jnt ?_
     refine jc_seq ?_
     refine jc_true rfl ?_
     refine jc_skip ?_
     refine jq_then ?_
     refine jc_seq ?_
     refine jc_block ?_
     refine jsr ?_
     refine jy (y_indexAddr_slice (off := oo + i * 4) rfl rfl (by omega) (by omega) (by omega)) ?_
     refine jy (y_loadAgg_old rfl rfl hold (by simp)) ?_
     refine jl_m rfl (by decide) rfl (m_alloc) (fun b5 => ?_)
     refine jst ?_
     refine jnt ?_
     refine jc_region ?_
     refine jz ?_
     refine jz ?_
     refine juc (goes_func rfl) (fun w1 hw1 => wblob_any b3 z x.sig (by omega) w1 (by omega) hw1) ?_
     refine jl_nil ?_
     refine jq_block ?_
     refine jq_then ?_
     refine jc_region ?_
     refine jy (y_add_fits rfl rfl (by simp only [fits]; omega)) ?_
     refine jz ?_
     refine jl_nil ?_
     refine jq_round (i := i) (i + 1) ?_ ?_ ?_
     ·omega
     ·exact ⟨rfl, rfl, rfl, rfl, lk_int rfl (by omega), trivial⟩
     ·exact fun _ h => ⟨by omega, h.pop.cast (by rw [fold_take putSig hlt, hxe, hz]; rfl)⟩
     )
   ·first
    | (exfalso; omega)
    | (
     refine jnt ?_
     refine jc_seq ?_
     refine jc_false rfl ?_
     refine jc_exit ?_
     refine jq_then_exit ?_
     refine jq_then_exit ?_
     refine jq_hit ?_
     refine jq_then ?_
     refine jc_seq ?_
     refine jc_world (fun _ h => h.cast (H' := [.cells b3 [.string (txSigs t).1, .int .i64 (txSigs t).2], .cells b1 (Trx.c t a1 c1 a2 c2 a3 c3)]) (by rw [List.take_of_length_le (by omega)]; rfl)) ?_
     have hzs := txSigs_size t (l := t.ins) (by omega)
     refine jc_region ?_
     refine jz ?_
     refine jz ?_
     refine jpc (goes_func rfl) (fun w1 hw1 => enc_any t.pf a3 c3 w1 (h3.keep hw1) hf.pf l3) ?_
     refine juc (goes_func rfl) (fun w1 hw1 => wblob_any b3 (txSigs t) (pfEnc t.pf) (by omega) w1 (by have : (txSigs t).1.size + 0 ≤ 100000 := hzs; omega) hw1) ?_
     refine jnt ?_
     refine jsr ?_
     refine jpc (goes_func rfl) (fun w1 hw1 => wtext_any b3 (wBlob (txSigs t) (pfEnc t.pf)) w1 (CellAt.of_cells (hw1.get (A := .cells b3 [.string (wBlob (txSigs t) (pfEnc t.pf)).1, .int .i64 (wBlob (txSigs t) (pfEnc t.pf)).2]) mem0) rfl) (CellAt.of_cells (hw1.get (A := .cells b3 [.string (wBlob (txSigs t) (pfEnc t.pf)).1, .int .i64 (wBlob (txSigs t) (pfEnc t.pf)).2]) mem0) rfl)) ?_
     refine jz ?_
     refine jnt ?_
     refine jc_ret ?_
     refine jq_ret1 rfl rfl ?_
     exact fun _ hw => ⟨by unfold txEnc; rw [if_pos hrb], hw.ch⟩
     )
 ·skip
  refine jz ?_
  refine jnt ?_
  refine jc_true rfl ?_
  refine jsr ?_
  refine jz ?_
  refine jnt ?_
  refine jc_ret ?_
  refine jq_then_ret ?_
  refine jq_ret1 rfl rfl ?_
  exact fun _ hw => ⟨by unfold txEnc; rw [if_neg (by simp_all)], hw.ch⟩

end Go.Proofs.YtomhcibbalhgkaaGreat