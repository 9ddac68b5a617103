/- The walk of package lottery, part four: Take. Written by program (walk.py) out of a table of contracts and invariants. -/
import Derived.Test.YtghomncegjamfaaGreatLv
namespace Go.Proofs.YtghomncegjamfaaGreat
open Go.RowKit
set_option maxRecDepth 100000
set_option maxHeartbeats 2000000
set_option linter.unusedVariables false
set_option linter.unusedSimpArgs false
attribute [local irreducible] Yields Makes Writes
theorem take_pos {ch cl : ByteArray} {nx : Int} {l : List Of} {t : Tk} {i : Nat} {o : Of} (hi : findL l t.serial = (i : Int)) (hlt : i < l.length) (hxe : l[i] = o) : takeO ⟨ch, cl, nx, l⟩ t = o ∧
    takeE ⟨ch, cl, nx, l⟩ t = if t ≠ { tkOf o t.client with sig := t.sig } then 13 else if o.taken = true then 7 else if signedB cl t = true then 0 else 10 := by
  have h1 : offAt l (findL l t.serial) = o := by rw [hi, off_at hlt, hxe]
  refine ⟨h1, ?_⟩
  unfold takeE
  rw [if_neg (show ¬ findL l t.serial < 0 by omega)]
  show (if t ≠ { tkOf (offAt l (findL l t.serial)) t.client with sig := t.sig } then (13 : Int) else if (offAt l (findL l t.serial)).taken = true then 7 else if signedB cl t = true then 0 else 10) = _
  rw [h1]
theorem not_dec {p : Prop} [Decidable p] (h : (!decide p) = true) : ¬ p := by simpa using h
theorem of_ndec {p : Prop} [Decidable p] (h : (!decide p) = false) : p := by simpa using h

theorem ltake_any (b : Nat) (ch cl : ByteArray) (nx : Int) (ad : Option Addr) (l : List Of) (c : Nat) (w : World) (hl : l.length ≤ 1000) (hA : HA.ok w (.cells b [.string ch, .string cl, .int .u64 nx, .slice ad l.length c])) (hE1 : ElO w [b] ad 9 (l.map Of.c)) (t : Tk) (hf : t.Fit) (hz1 : t.chan.size ≤ 40000) (hz2 : t.commit.size ≤ 40000) (hz3 : t.sig.size ≤ 1000000) (hof : ∀ o ∈ l, o.Fit) :
  Calls Tryz.prog 32 #[.pointer (some ⟨b, 0, none⟩), .agg (Tk.c t).toArray] w fun e w' => ∃ pr : Option Addr × Nat, e = .returned (.tuple #[.int .u64 (takeV ⟨ch, cl, nx, l⟩ t), .agg (Wn.c (takeW ⟨ch, cl, nx, l⟩ t)).toArray, .bool (takeI ⟨ch, cl, nx, l⟩ t), .int .i64 (takeE ⟨ch, cl, nx, l⟩ t)]) ∧ Upd w w' (.cells b [.string ch, .string cl, .int .u64 nx, .slice ad l.length c]) (Bk.h (takeB ⟨ch, cl, nx, l⟩ t) b pr.1 pr.2) ∧ RowT w w' (ad, c) pr l ((takeB ⟨ch, cl, nx, l⟩ t)).l := by
 have hr := find_range l t.serial
 refine calls_of (n := 99) (E := [(0, .pointer (some ⟨b, 0, none⟩)), (1, .agg (Tk.c t).toArray)]) (W := Hp w [b] [.cells b [.string ch, .string cl, .int .u64 nx, .slice ad l.length c]]) Tryz.func32 rfl rfl (Nat.le_of_ble_eq_true rfl) rfl (Hp.start rfl hA) ?_; refine jsr ?_; refine jl_m rfl (by decide) rfl (m_box rfl rfl) (fun b3 => ?_); refine jz ?_; refine jl_m rfl (by decide) rfl (m_alloc) (fun b5 => ?_); (iterate 2 refine jz ?_); refine jnt ?_; refine jsr ?_; (iterate 3 refine jz ?_); refine jpc (goes_func rfl) (fun w1 hw1 => lfind_any b ad l c w1 hl (CellAt.of_cells (hw1.get (A := .cells b [.string ch, .string cl, .int .u64 nx, .slice ad l.length c]) mem2) rfl) (hE1.keep hw1).el t.serial) ?_; refine jz ?_; refine jnt ?_; refine jc_seq ?_; refine jsr ?_; refine jz ?_; refine jy (y_lss rfl rfl) ?_; refine jl_prop (fun h20 => ?_) (fun h20 => ?_)
 ·first | (exfalso; omega) | (
   refine jnt ?_; refine jc_true rfl ?_; refine jsr ?_; refine jy (y_build Built.nil) ?_; refine jz ?_; refine jst ?_; (iterate 2 refine jz ?_); refine jnt ?_; refine jc_ret ?_; refine jq_then_ret ?_; refine jq_res (.inl rfl) rfl (.tmp rfl (rca (.tmp rfl (.tmp rfl .nil)))) ?_
   exact fun w' hw => by
    have e0 : takeE ⟨ch, cl, nx, l⟩ t = 6 := by
     exact if_pos (show findL l t.serial < 0 by omega)
    have hn : ¬ takeE ⟨ch, cl, nx, l⟩ t = 0 := by rw [e0]; decide
    have e1 : takeB ⟨ch, cl, nx, l⟩ t = ⟨ch, cl, nx, l⟩ := if_neg hn
    have e2 : takeV ⟨ch, cl, nx, l⟩ t = 0 := if_neg hn
    have e3 : takeW ⟨ch, cl, nx, l⟩ t = wn0 := if_neg hn
    have e4 : takeI ⟨ch, cl, nx, l⟩ t = false := if_neg hn
    rw [e1, e2, e3, e4, e0]
    exact ⟨(ad, c), rfl, (hw.part (F := [.cells b [.string ch, .string cl, .int .u64 nx, .slice ad l.length c]]) (.cons del2 .nil)).updd rfl, .inl ⟨rfl, rfl⟩⟩
   )
 ·first | (exfalso; omega) | (
   refine jnt ?_; refine jc_false rfl ?_; refine jc_skip ?_; refine jq_then ?_; refine jc_seq ?_
   obtain ⟨i, hi⟩ : ∃ i : Nat, findL l t.serial = (i : Int) := ⟨(findL l t.serial).toNat, by omega⟩
   have hlt : i < l.length := by omega
   obtain ⟨bb, oo, ea, hbb, hold⟩ := hE1.get hlt
   subst ea
   have hfo := hof _ (List.getElem_mem hlt)
   generalize hxe : l[i]'hlt = o at hold hfo
   refine jc_region ?_; (iterate 5 refine jz ?_); refine jy (y_indexAddr_slice (off := oo + i * 9) rfl rfl (by omega) (by omega) (by omega)) ?_; refine jy (y_loadAgg_old rfl rfl hold hbb) ?_; refine jl_m rfl (by decide) rfl (m_alloc) (fun b9 => ?_); refine jst ?_; refine jnt ?_; refine jsr ?_; (iterate 3 refine jz ?_); refine jpc (goes_func rfl) (fun w1 hw1 => lticket_any o t.client w1) ?_; refine jl_m rfl (by decide) rfl (m_alloc) (fun b10 => ?_); refine jst ?_; refine jnt ?_; refine jsr ?_; (iterate 3 refine jz ?_); refine jst ?_; refine jnt ?_; refine jc_seq ?_; refine jc_block ?_; refine jsr ?_; (iterate 2 refine jz ?_); refine jy (y_neq_agg rfl rfl (by kernel_rfl) (fun w => eq_tk 9998 t { tkOf o t.client with sig := t.sig } w)) ?_; refine jl_bool (fun h39 => ?_) (fun h39 => ?_)
   ·skip
    refine jz ?_; refine jnt ?_; refine jc_true rfl ?_; refine jsr ?_; refine jy (y_build Built.nil) ?_; refine jz ?_; refine jst ?_; (iterate 2 refine jz ?_); refine jnt ?_; refine jc_ret ?_; refine jq_block_ret ?_; refine jq_then_ret ?_; refine jq_res (.inl rfl) rfl (.tmp rfl (rca (.tmp rfl (.tmp rfl .nil)))) ?_
    exact fun w' hw => by
     have e0 : takeE ⟨ch, cl, nx, l⟩ t = 13 := by
      rw [(take_pos hi hlt hxe).2, if_pos (not_dec h39)]
     have hn : ¬ takeE ⟨ch, cl, nx, l⟩ t = 0 := by rw [e0]; decide
     have e1 : takeB ⟨ch, cl, nx, l⟩ t = ⟨ch, cl, nx, l⟩ := if_neg hn
     have e2 : takeV ⟨ch, cl, nx, l⟩ t = 0 := if_neg hn
     have e3 : takeW ⟨ch, cl, nx, l⟩ t = wn0 := if_neg hn
     have e4 : takeI ⟨ch, cl, nx, l⟩ t = false := if_neg hn
     rw [e1, e2, e3, e4, e0]
     exact ⟨((some ⟨bb, oo, none⟩), c), rfl, (hw.part (F := [.cells b [.string ch, .string cl, .int .u64 nx, .slice (some ⟨bb, oo, none⟩) l.length c]]) (.cons del4 .nil)).updd rfl, .inl ⟨rfl, rfl⟩⟩
   ·skip
    refine jz ?_; refine jnt ?_; refine jc_false rfl ?_; refine jsr ?_; (iterate 2 refine jz ?_); refine jl_bool (fun h43 => ?_) (fun h43 => ?_)
    ·skip
     refine jz ?_; refine jnt ?_; refine jc_true rfl ?_; refine jsr ?_; refine jy (y_build Built.nil) ?_; refine jz ?_; refine jst ?_; (iterate 2 refine jz ?_); refine jnt ?_; refine jc_ret ?_; refine jq_block_ret ?_; refine jq_then_ret ?_; refine jq_res (.inl rfl) rfl (.tmp rfl (rca (.tmp rfl (.tmp rfl .nil)))) ?_
     exact fun w' hw => by
      have e0 : takeE ⟨ch, cl, nx, l⟩ t = 7 := by
       rw [(take_pos hi hlt hxe).2, if_neg (fun h => h (of_ndec h39)), if_pos (show o.taken = true by assumption)]
      have hn : ¬ takeE ⟨ch, cl, nx, l⟩ t = 0 := by rw [e0]; decide
      have e1 : takeB ⟨ch, cl, nx, l⟩ t = ⟨ch, cl, nx, l⟩ := if_neg hn
      have e2 : takeV ⟨ch, cl, nx, l⟩ t = 0 := if_neg hn
      have e3 : takeW ⟨ch, cl, nx, l⟩ t = wn0 := if_neg hn
      have e4 : takeI ⟨ch, cl, nx, l⟩ t = false := if_neg hn
      rw [e1, e2, e3, e4, e0]
      exact ⟨((some ⟨bb, oo, none⟩), c), rfl, (hw.part (F := [.cells b [.string ch, .string cl, .int .u64 nx, .slice (some ⟨bb, oo, none⟩) l.length c]]) (.cons del4 .nil)).updd rfl, .inl ⟨rfl, rfl⟩⟩
    ·skip
     refine jz ?_; refine jnt ?_; refine jc_false rfl ?_; refine jc_seq ?_; refine jc_draw (by kernel_rfl) (fun _ h => h.drew) ?_; (iterate 5 refine juz ?_); refine ju_call rfl (by decide) rfl (goes_func rfl) (fun w1 hw1 => pcall hw1 (signed_any cl t w1 hf hz1 hz2 hz3)) ?_; refine ju_bool (fun h51 => ?_) (fun h51 => ?_)
     ·skip
      (iterate 2 refine juz ?_); refine ju_nil ?_; refine jq_then ?_; refine jc_false rfl ?_; refine jc_skip ?_; refine jq_block ?_; refine jq_then ?_; refine jsr ?_; (iterate 5 refine jz ?_); refine jl_fcall rfl (by decide) rfl (goes_func rfl) (fun w1 hw1 => cloneOf_pos _ c l w1 (by omega) (by omega) (hE1.keep hw1).el) (fun ⟨b59, c59⟩ => ?_); (iterate 2 refine jz ?_); refine jst ?_; refine jnt ?_; refine jsr ?_; (iterate 5 refine jz ?_); refine jy (y_indexAddr_slice (off := i * 9) rfl rfl (by omega) (by omega) (by omega)) ?_; refine jz ?_; refine jl_w rfl rfl (w_store_row rfl rfl rfl (by rw [flat_len (n := 9) (c := Of.c) (fun _ => rfl)]; omega) rep0) ?_; refine jnt ?_; refine jsr ?_; (iterate 6 refine jz ?_); refine jpc (goes_func rfl) (fun w1 hw1 => nominal_any _ _ _ w1 hfo.face hfo.wins hfo.many) ?_; (iterate 5 refine jz ?_); refine jnt ?_; refine jsr ?_; (iterate 8 refine jz ?_); refine jpc (goes_func rfl) (fun w1 hw1 => wins_any _ _ _ _ w1 hfo.drawn hf.client hfo.wins hfo.many) ?_; (iterate 5 refine jz ?_); refine jnt ?_; refine jc_seq ?_; refine jc_schedC (Hp w [b] [.cells b9 (Of.c o), .cells b3 (Tk.c t)]) 11 [(0, true), (1, true), (2, true), (3, true), (4, true), (5, true), (6, true), (7, true), (8, true), (9, false), (10, true)] rfl (by kernel_rfl) (fun _ _ _ _ h => h) (fun _ h => (h.part (.cons del2 (.cons del3 .nil))).drew) (fun _ h => h.drew) ?_
      simp only [pickO, nthO, List.drop_succ_cons, List.drop_zero]
      (iterate 6 refine jkz ?_); refine jky (y_build (Built.agg rfl rfl rfl (by repeat constructor) (Built.cell rfl rfl rfl (by repeat constructor) (Built.cell rfl rfl rfl (by repeat constructor) Built.nil)))) ?_; (iterate 2 refine jkz ?_); refine js_w rfl rfl (w_storeAgg rfl rfl rfl rfl (by first | exact rep0 | exact rep1 | exact rep2 | exact rep3 | exact rep4) (by repeat constructor)) (by intro _ h; exact h.part (.cons del2 (.cons del3 .nil))) ?_; refine jkz ?_; refine js_nil ?_; refine jz ?_; refine jnt ?_; refine jc_ret ?_; refine jq_res (.inl rfl) rfl (.tmp rfl (rca (.tmp rfl (.tmp rfl .nil)))) ?_
      exact fun w' hw => by
       obtain ⟨ho, he⟩ := take_pos (ch := ch) (cl := cl) (nx := nx) hi hlt hxe
       have e0 : takeE ⟨ch, cl, nx, l⟩ t = 0 := by rw [he, if_neg (fun h => h (of_ndec h39)), if_neg (show ¬ o.taken = true by rw [show o.taken = false by assumption]; decide), if_pos (show signedB cl t = true by assumption)]
       have e1 : takeB ⟨ch, cl, nx, l⟩ t = ⟨ch, cl, nx, l.set i { o with taken := true }⟩ := by
        unfold takeB; rw [if_pos e0, ho]; show Bk.mk _ _ _ (l.set (findL l t.serial).toNat _) = _; rw [hi]; rfl
       have e2 : takeV ⟨ch, cl, nx, l⟩ t = nomV o.face o.wins o.many := by unfold takeV; rw [if_pos e0, ho]
       have e3 : takeW ⟨ch, cl, nx, l⟩ t = ⟨t, o.salt, o.drawn⟩ := by unfold takeW; rw [if_pos e0, ho]
       have e4 : takeI ⟨ch, cl, nx, l⟩ t = winsB o.drawn t.client o.wins o.many := by unfold takeI; rw [if_pos e0, ho]
       rw [e1, e2, e3, e4, e0]
       have hfl : (l.flatMap Of.c).set (i * 9 + 8) (.bool true) = (l.set i { o with taken := true }).flatMap Of.c := by have h := flat_off (l := l) hlt (by rw [hxe]; assumption); rw [hxe] at h; exact h
       have hw2 := hw.cast (H' := [.row (some ⟨b59, 0, none⟩) (l.length) c59 32 9 ((l.set i { o with taken := true }).flatMap Of.c), .cells b10 (Tk.c { tkOf o t.client with sig := t.sig }), .cells b9 (Of.c o), .cells b5 (Wn.c ⟨t, o.salt, o.drawn⟩), .cells b3 (Tk.c t), .cells b [.string ch, .string cl, .int .u64 nx, .slice (some ⟨b59, 0, none⟩) l.length c59]]) (by rw [← hfl] <;> rfl)
       refine ⟨(some ⟨b59, 0, none⟩, c59), rfl, ?_, RowT.new hw2 (by rw [List.length_set]) (.tail _ (.tail _ (.tail _ (.tail _ (.head _))))) rfl⟩
       show Upd w w' _ (.cells b [.string ch, .string cl, .int .u64 nx, .slice (some ⟨b59, 0, none⟩) (l.set i _).length c59])
       rw [List.length_set]
       exact (hw2.part (.cons (.tail (.tail (.tail (.tail (.tail .head))))) .nil)).updd rfl
     ·skip
      (iterate 2 refine juz ?_); refine ju_nil ?_; refine jq_then ?_; refine jc_true rfl ?_; refine jsr ?_; refine jy (y_build Built.nil) ?_; refine jz ?_; refine jst ?_; (iterate 2 refine jz ?_); refine jnt ?_; refine jc_ret ?_; refine jq_block_ret ?_; refine jq_then_ret ?_; refine jq_res (.inl rfl) rfl (.tmp rfl (rca (.tmp rfl (.tmp rfl .nil)))) ?_
      exact fun w' hw => by
       have e0 : takeE ⟨ch, cl, nx, l⟩ t = 10 := by
        rw [(take_pos hi hlt hxe).2, if_neg (fun h => h (of_ndec h39)), if_neg (show ¬ o.taken = true by rw [show o.taken = false by assumption]; decide), if_neg (show ¬ signedB cl t = true by rw [show signedB cl t = false by assumption]; decide)]
       have hn : ¬ takeE ⟨ch, cl, nx, l⟩ t = 0 := by rw [e0]; decide
       have e1 : takeB ⟨ch, cl, nx, l⟩ t = ⟨ch, cl, nx, l⟩ := if_neg hn
       have e2 : takeV ⟨ch, cl, nx, l⟩ t = 0 := if_neg hn
       have e3 : takeW ⟨ch, cl, nx, l⟩ t = wn0 := if_neg hn
       have e4 : takeI ⟨ch, cl, nx, l⟩ t = false := if_neg hn
       rw [e1, e2, e3, e4, e0]
       exact ⟨((some ⟨bb, oo, none⟩), c), rfl, (hw.part (F := [.cells b [.string ch, .string cl, .int .u64 nx, .slice (some ⟨bb, oo, none⟩) l.length c]]) (.cons del4 .nil)).updd rfl, .inl ⟨rfl, rfl⟩⟩
   )

end Go.Proofs.YtghomncegjamfaaGreat