/- The walks of the document's answer for notes, part two: what the law hands it; what is written. Written by program (walk.py) out of a table of contracts and invariants. -/
import Derived.Test.YtddpoigfliaklaaGreatRe
import Derived.Test.YtddpoigfliaklaaGreatNf
namespace Go.Proofs.YtddpoigfliaklaaGreat
open Go.RowKit
set_option maxRecDepth 100000
set_option maxHeartbeats 4000000
set_option linter.unusedVariables false
set_option linter.unusedSimpArgs false
theorem take_flat0 {α : Type} {c : α → List Value} {l : List α} {i : Nat} (h : i < l.length) : (l.take (i + 1)).flatMap c = (l.take i).flatMap c ++ c l[i] := by
  rw [List.take_succ_eq_append_getElem h, List.flatMap_append]
  simp

theorem reftk_any (t : Tk) (w : World) :
  Calls Tryz.prog 17 #[.agg (Tk.c t).toArray] w fun e w' => e = .returned (.agg (Tk.c t).toArray) ∧ Ch [] w w' := by
 refine calls_of (n := 20) (E := [(0, .agg (Tk.c t).toArray)]) (W := Hp w [] []) Tryz.func17 rfl rfl (Nat.le_of_ble_eq_true rfl) rfl (Hp.nil _ _) ?_
 refine jsr ?_
 refine jl_m rfl (by decide) rfl (m_box rfl rfl) (fun b1 => ?_)
 refine jl_m rfl (by decide) rfl (m_alloc) (fun b2 => ?_)
 refine jnt ?_
 refine jsr ?_
 refine jz ?_
 refine jz ?_
 refine jz ?_
 refine jz ?_
 refine jz ?_
 refine jz ?_
 refine jz ?_
 refine jz ?_
 refine jz ?_
 refine jz ?_
 refine jz ?_
 refine jz ?_
 refine jz ?_
 refine jz ?_
 refine jz ?_
 refine jz ?_
 refine jy (y_build (Built.cell rfl rfl rfl (by repeat constructor) (Built.cell rfl rfl rfl (by repeat constructor) (Built.cell rfl rfl rfl (by repeat constructor) (Built.cell rfl rfl rfl (by repeat constructor) (Built.cell rfl rfl rfl (by repeat constructor) (Built.cell rfl rfl rfl (by repeat constructor) (Built.cell rfl rfl rfl (by repeat constructor) (Built.cell rfl rfl rfl (by repeat constructor) Built.nil))))))))) ?_
 refine jst ?_
 refine jnt ?_
 refine jc_ret ?_
 refine jq_res (.inl rfl) rfl (.cell rfl (by first | exact ld_agg (by first | exact mem0 | exact mem1 | exact mem2 | exact mem3 | exact mem4 | exact mem5) (by repeat constructor) | exact ld_agg (by first | exact mem0 | exact mem1 | exact mem2 | exact mem3 | exact mem4 | exact mem5) (by assumption)) .nil) ?_
 exact fun _ hw => ⟨rfl, hw.ch⟩

theorem refwn_any (x : Wn) (w : World) :
  Calls Tryz.prog 12 #[.agg (Wn.c x).toArray] w fun e w' => e = .returned (.agg (Wn.c x).toArray) ∧ Ch [] w w' := by
 refine calls_of (n := 11) (E := [(0, .agg (Wn.c x).toArray)]) (W := Hp w [] []) Tryz.func12 rfl rfl (Nat.le_of_ble_eq_true rfl) rfl (Hp.nil _ _) ?_
 refine jsr ?_
 refine jl_m rfl (by decide) rfl (m_box rfl rfl) (fun b1 => ?_)
 refine jl_m rfl (by decide) rfl (m_alloc) (fun b2 => ?_)
 refine jnt ?_
 refine jc_seq ?_
 refine jc_tail 8 (by kernel_rfl) (fun _ h => h.drew) ?_
 simp only [List.take_succ_cons, List.take_zero, List.drop_succ_cons, List.drop_zero]
 refine jtz ?_
 refine jtz ?_
 refine jt_call rfl (by decide) rfl (goes_func rfl) (fun w1 hw1 => pcall hw1 (reftk_any x.t w1)) ?_
 refine jtz ?_
 refine jtz ?_
 refine jtz ?_
 refine jtz ?_
 refine jty (y_build (Built.agg rfl rfl rfl (by repeat constructor) (Built.cell rfl rfl rfl (by repeat constructor) (Built.cell rfl rfl rfl (by repeat constructor) Built.nil)))) ?_
 refine jt_nil ?_
 refine jst ?_
 refine jnt ?_
 refine jc_ret ?_
 refine jq_res (.inl rfl) rfl (.cell rfl (by first | exact ld_agg (by first | exact mem0 | exact mem1 | exact mem2 | exact mem3 | exact mem4 | exact mem5) (by repeat constructor) | exact ld_agg (by first | exact mem0 | exact mem1 | exact mem2 | exact mem3 | exact mem4 | exact mem5) (by assumption)) .nil) ?_
 exact fun _ hw => ⟨rfl, hw.ch⟩

theorem refpf_any (p : Pf) (ad : Option Addr) (c : Nat) (w : World) (hE : ElAt w ad 10 (p.wins.map Wn.c)) (hl : p.wins.length ≤ 1000000) :
  Calls Tryz.prog 26 #[.agg (Pf.c p ad c).toArray] w fun e w' => ∃ pr : Option Addr × Nat, e = .returned (.agg (Pf.c p pr.1 pr.2).toArray) ∧ Fresh w w' (.row pr.1 p.wins.length pr.2 34 10 (p.wins.flatMap Wn.c)) := by
 refine calls_of (n := 31) (E := [(0, .agg (Pf.c p ad c).toArray)]) (W := Hp w [] []) Tryz.func26 rfl rfl (Nat.le_of_ble_eq_true rfl) rfl (Hp.nil _ _) ?_
 refine jsr ?_
 refine jl_m rfl (by decide) rfl (m_box rfl rfl) (fun b1 => ?_)
 refine jl_m rfl (by decide) rfl (m_alloc) (fun b2 => ?_)
 refine jnt ?_
 refine jsr ?_
 refine jz ?_
 refine jz ?_
 refine jz ?_
 refine jz ?_
 refine jz ?_
 refine jz ?_
 refine jy (y_build (Built.cell rfl rfl rfl (by repeat constructor) (Built.cell rfl rfl rfl (by repeat constructor) (Built.cell rfl rfl rfl (by repeat constructor) Built.nil)))) ?_
 refine jl_m rfl (by decide) rfl (m_alloc) (fun b3 => ?_)
 refine jst ?_
 refine jnt ?_
 refine jc_seq ?_
 refine jsr ?_
 refine jz ?_
 refine jnt ?_
 refine jc_block ?_
 refine jc_loop3 (fun (i : Nat) (au : Option Addr) (cu : Nat) => [(1, .pointer (some ⟨b1, 0, none⟩)), (2, .pointer (some ⟨b2, 0, none⟩)), (3, .pointer (some ⟨b3, 0, none⟩)), (4, .int .i64 (i : Nat))]) (fun (i : Nat) (au : Option Addr) (cu : Nat) => fun w' => i ≤ p.wins.length ∧ Hp w [] [.row au (i) cu 34 10 ((p.wins.take (i)).flatMap Wn.c), .cells b3 [.int .u64 p.amount, .string p.sig, .string p.token, .slice au (i) cu], .cells b2 [.int .u64 0, .string ⟨#[]⟩, .string ⟨#[]⟩, .slice none 0 0], .cells b1 (Pf.c p ad c)] w') (fun (i : Nat) (au : Option Addr) (cu : Nat) => p.wins.length - i) 0 none 0 ?_ ?_ ?_
 ·exact ⟨rfl, rfl, rfl, rfl, trivial⟩
 ·exact fun _ h => ⟨by omega, h.nilrow 34 10⟩
 ·intro i au cu
  refine jc_and (fun hi => ?_)
  refine jc_seq ?_
  refine jsr ?_
  refine jz ?_
  refine jz ?_
  refine jz ?_
  refine jy (y_len_slice rfl) ?_
  refine jy (y_lss rfl rfl) ?_
  refine jl_prop (fun h16 => ?_) (fun h16 => ?_)
  ·first
   | (exfalso; omega)
   | (
    have hlt : i < p.wins.length := by omega
    have hnx := take_flat0 (c := Wn.c) hlt
    obtain ⟨bb, oo, ea, hold⟩ := hE.get hlt
    subst ea
    generalize hxe : p.wins[i]'hlt = x at *
    refine jnt ?_
    refine jc_true rfl ?_
    refine jc_skip ?_
    refine jq_then ?_
    refine jc_seq ?_
    refine jc_block ?_
    refine jc_schedC (Hp w [] [.cells b3 [.int .u64 p.amount, .string p.sig, .string p.token, .slice au (i) cu], .cells b1 (Pf.c p (some ⟨bb, oo, none⟩) c)]) 9 [(0, true), (1, true), (2, true), (3, true), (4, true), (5, true), (6, true), (7, false), (8, false)] rfl (by kernel_rfl) (fun _ _ _ _ h => h) (fun _ h => (h.part (.cons (by first | exact del0 | exact del1 | exact del2) (.cons (by first | exact del0 | exact del1 | exact del2 | exact del3) .nil))).drew) (fun _ h => h.drew) ?_
    simp only [pickO, nthO, List.drop_succ_cons, List.drop_zero]
    refine jkz ?_
    refine jkz ?_
    refine jkz ?_
    refine jkz ?_
    refine jkz ?_
    refine jky (y_indexAddr_slice (off := oo + i * 10) rfl rfl (by omega) (by omega) (by omega)) ?_
    refine jky (y_loadAgg_old rfl rfl hold (by simp)) ?_
    refine js_pcall (by intro _ h; exact h.part (.cons (by first | exact del0 | exact del1 | exact del2) (.cons (by first | exact del0 | exact del1 | exact del2 | exact del3) .nil))) rfl (by decide) rfl (goes_func rfl) (fun w1 hw1 => pcall hw1 (refwn_any x w1)) ?_
    refine js_m (by intros; rename_i h; exact h.part (.cons (by first | exact del0 | exact del1 | exact del2) (.cons (by first | exact del0 | exact del1 | exact del2 | exact del3) .nil))) rfl (by decide) rfl (m_buildSlice (size := 10) (by decide) (Built.agg rfl rfl rfl (by repeat constructor) Built.nil)) (fun b27 => ?_)
    refine js_nil ?_
    refine jl_m2 rfl (by decide) rfl (m_append rfl rfl (by first | exact del0 | exact del1 | exact del2 | exact del3 | exact del4) (by first | exact del0 | exact del1 | exact del2 | exact del3 | exact del4) rfl (by omega) (by omega)) (fun a28 c28 => ?_)
    refine jz ?_
    refine jst ?_
    refine jl_nil ?_
    refine jq_block ?_
    refine jq_then ?_
    refine jc_region ?_
    refine jz ?_
    refine jy (y_add_fits rfl rfl (by simp only [fits]; omega)) ?_
    refine jz ?_
    refine jl_nil ?_
    refine jq_round3 (i := i) (j := au) (l := cu) (i + 1) a28 c28 ?_ ?_ ?_
    ·omega
    ·exact ⟨rfl, rfl, rfl, lk_int rfl (by omega), trivial⟩
    ·exact fun _ h => ⟨by omega, h.cast (by rw [hnx]; rfl)⟩
    )
  ·first
   | (exfalso; omega)
   | (
    refine jnt ?_
    refine jc_false rfl ?_
    refine jc_exit ?_
    refine jq_then_exit ?_
    refine jq_then_exit ?_
    refine jq_hit ?_
    refine jq_then ?_
    refine jsr ?_
    refine jz ?_
    refine jst ?_
    refine jnt ?_
    refine jc_ret ?_
    refine jq_res (.inl rfl) rfl (.cell rfl (by first | exact ld_agg (by first | exact mem0 | exact mem1 | exact mem2 | exact mem3 | exact mem4 | exact mem5) (by repeat constructor) | exact ld_agg (by first | exact mem0 | exact mem1 | exact mem2 | exact mem3 | exact mem4 | exact mem5) (by assumption)) .nil) ?_
    exact fun _ hw => (by have hie : i = p.wins.length := (by omega); subst hie; exact ⟨(au, cu), rfl, by have h2 := hw.part (F := [.row au (p.wins.length) cu 34 10 ((p.wins.take (p.wins.length)).flatMap Wn.c)]) (.cons del0 .nil); rw [List.take_length] at h2; exact h2.fresh⟩)
    )

theorem renc_any (p : Pf) (ad : Option Addr) (c : Nat) (w : World) (hE : ElAt w ad 10 (p.wins.map Wn.c)) (hf : p.Fit) (hl : p.wins.length ≤ 1000000000) :
  Calls Tryz.prog 28 #[.agg (Pf.c p ad c).toArray] w fun e w' => e = .returned (.string (pfEnc p)) ∧ Ch [] w w' := by
 refine calls_of (n := 91) (E := [(0, .agg (Pf.c p ad c).toArray)]) (W := Hp w [] []) Tryz.func28 rfl rfl (Nat.le_of_ble_eq_true rfl) rfl (Hp.nil _ _) ?_
 refine jsr ?_
 refine jl_m rfl (by decide) rfl (m_box rfl rfl) (fun b1 => ?_)
 refine jz ?_
 refine jnt ?_
 refine jc_seq ?_
 refine jsr ?_
 refine jz ?_
 refine jpc (goes_func rfl) (fun w1 hw1 => rright_any p ad c w1 (hE.keep hw1) hl) ?_
 refine jl_bool (fun h7 => ?_) (fun h7 => ?_)
 ·skip
  have hrb : pfRight p = true := by assumption
  have hr := pfRight_iff.1 hrb
  have hr2 := hr.2.1
  have hr3 := hr.2.2.1
  have hr4 := hr.2.2.2
  refine jz ?_
  refine jnt ?_
  refine jc_false rfl ?_
  refine jc_skip ?_
  refine jq_then ?_
  refine jsr ?_
  refine jy (y_build Built.nil) ?_
  refine jl_m rfl (by decide) rfl (m_box rfl rfl) (fun b10 => ?_)
  refine jz ?_
  refine jnt ?_
  refine jsr ?_
  refine jz ?_
  refine jz ?_
  refine jz ?_
  refine juc (goes_func rfl) (fun w1 hw1 => rwnum_any b10 (w0) (p.amount) hf.amount w1 (wz) hw1) ?_
  refine jnt ?_
  refine jsr ?_
  refine jz ?_
  refine jz ?_
  refine jz ?_
  refine juc (goes_func rfl) (fun w1 hw1 => rwblob_any b10 (wNum (w0) (p.amount)) (p.sig) (by omega) w1 (wz) hw1) ?_
  refine jnt ?_
  refine jsr ?_
  refine jz ?_
  refine jz ?_
  refine jz ?_
  refine juc (goes_func rfl) (fun w1 hw1 => rwblob_any b10 (wBlob (wNum (w0) (p.amount)) (p.sig)) (p.token) (by omega) w1 (wz) hw1) ?_
  refine jnt ?_
  refine jsr ?_
  refine jz ?_
  refine jz ?_
  refine jz ?_
  refine jy (y_len_slice rfl) ?_
  refine juc (goes_func rfl) (fun w1 hw1 => rwbyte_any b10 (wBlob (wBlob (wNum (w0) (p.amount)) (p.sig)) (p.token)) (((p.wins.length : Nat) : Int)) (by simp only [fits]; omega) w1 (wz) hw1) ?_
  refine jnt ?_
  refine jc_seq ?_
  refine jsr ?_
  refine jz ?_
  refine jnt ?_
  refine jc_block ?_
  refine jc_loop (fun (i : Nat) => [(1, .pointer (some ⟨b1, 0, none⟩)), (3, .pointer (some ⟨b10, 0, none⟩)), (4, .int .i64 (i : Nat))]) (fun (i : Nat) => fun w' => i ≤ p.wins.length ∧ Hp w [] [.cells b10 [.string ((wWins (pfHead p) (p.wins.take i))).1, .int .i64 ((wWins (pfHead p) (p.wins.take i))).2], .cells b1 (Pf.c p ad c)] w') (fun (i : Nat) => p.wins.length - i) 0 ?_ ?_ ?_
  ·exact ⟨rfl, rfl, rfl, trivial⟩
  ·exact fun _ h => ⟨by omega, h⟩
  ·intro i
   refine jc_and (fun hi => ?_)
   refine jc_seq ?_
   refine jsr ?_
   refine jz ?_
   refine jz ?_
   refine jz ?_
   refine jy (y_len_slice rfl) ?_
   refine jy (y_lss rfl rfl) ?_
   refine jl_prop (fun h32 => ?_) (fun h32 => ?_)
   ·first
    | (exfalso; omega)
    | (
     have hlt : i < p.wins.length := by omega
     have hfx := hf.wins _ (List.getElem_mem hlt)
     have hrx := wnMay_iff.1 (hr.1 _ (List.getElem_mem hlt))
     obtain ⟨bb, oo, ea, hold⟩ := hE.get hlt
     subst ea
     generalize hxe : p.wins[i]'hlt = x at *
     have hzs := wle_wins (l := p.wins.take i) (x := pfHead p) (a := 0) (K := 100000) (by have := pfHead_size p; rw [List.length_take]; omega)
     generalize hz : wWins (pfHead p) (p.wins.take i) = z at *
     refine jnt ?_
     refine jc_true rfl ?_
     refine jc_skip ?_
     refine jq_then ?_
     refine jc_seq ?_
     refine jc_block ?_
     refine jsr ?_
     refine jz ?_
     refine jz ?_
     refine jz ?_
     refine jy (y_indexAddr_slice (off := oo + i * 10) rfl rfl (by omega) (by omega) (by omega)) ?_
     refine jz ?_
     refine jy (y_loadAgg_old rfl rfl (hold.take 8) (by simp)) ?_
     refine jl_m rfl (by decide) rfl (m_alloc) (fun b5 => ?_)
     refine jst ?_
     refine jnt ?_
     refine jsr ?_
     refine jz ?_
     refine jz ?_
     refine jz ?_
     refine juc (goes_func rfl) (fun w1 hw1 => rwhash_any b10 (z) (x.t.chan) (by omega) w1 (wz) hw1) ?_
     refine jnt ?_
     refine jsr ?_
     refine jz ?_
     refine jz ?_
     refine jz ?_
     refine juc (goes_func rfl) (fun w1 hw1 => rwnum_any b10 (wHash (z) (x.t.chan)) (x.t.serial) hfx.t.serial w1 (wz) hw1) ?_
     refine jnt ?_
     refine jsr ?_
     refine jz ?_
     refine jz ?_
     refine jz ?_
     refine juc (goes_func rfl) (fun w1 hw1 => rwnum_any b10 (wNum (wHash (z) (x.t.chan)) (x.t.serial)) (x.t.face) hfx.t.face w1 (wz) hw1) ?_
     refine jnt ?_
     refine jsr ?_
     refine jz ?_
     refine jz ?_
     refine jz ?_
     refine juc (goes_func rfl) (fun w1 hw1 => rwnum_any b10 (wNum (wNum (wHash (z) (x.t.chan)) (x.t.serial)) (x.t.face)) (x.t.wins) hfx.t.wins w1 (wz) hw1) ?_
     refine jnt ?_
     refine jsr ?_
     refine jz ?_
     refine jz ?_
     refine jz ?_
     refine juc (goes_func rfl) (fun w1 hw1 => rwnum_any b10 (wNum (wNum (wNum (wHash (z) (x.t.chan)) (x.t.serial)) (x.t.face)) (x.t.wins)) (x.t.many) hfx.t.many w1 (wz) hw1) ?_
     refine jnt ?_
     refine jsr ?_
     refine jz ?_
     refine jz ?_
     refine jz ?_
     refine juc (goes_func rfl) (fun w1 hw1 => rwhash_any b10 (wNum (wNum (wNum (wNum (wHash (z) (x.t.chan)) (x.t.serial)) (x.t.face)) (x.t.wins)) (x.t.many)) (x.t.commit) (by omega) w1 (wz) hw1) ?_
     refine jnt ?_
     refine jsr ?_
     refine jz ?_
     refine jz ?_
     refine jz ?_
     refine juc (goes_func rfl) (fun w1 hw1 => rwnum_any b10 (wHash (wNum (wNum (wNum (wNum (wHash (z) (x.t.chan)) (x.t.serial)) (x.t.face)) (x.t.wins)) (x.t.many)) (x.t.commit)) (x.t.client) hfx.t.client w1 (wz) hw1) ?_
     refine jnt ?_
     refine jsr ?_
     refine jz ?_
     refine jz ?_
     refine jz ?_
     refine juc (goes_func rfl) (fun w1 hw1 => rwblob_any b10 (wNum (wHash (wNum (wNum (wNum (wNum (wHash (z) (x.t.chan)) (x.t.serial)) (x.t.face)) (x.t.wins)) (x.t.many)) (x.t.commit)) (x.t.client)) (x.t.sig) (by omega) w1 (wz) hw1) ?_
     refine jnt ?_
     refine jsr ?_
     refine jz ?_
     refine jz ?_
     refine jz ?_
     refine jz ?_
     refine jy (y_indexAddr_slice (off := oo + i * 10) rfl rfl (by omega) (by omega) (by omega)) ?_
     refine jz ?_
     refine jy (y_load_old rfl (hold 8 _ rfl) (by simp)) ?_
     refine juc (goes_func rfl) (fun w1 hw1 => rwblob_any b10 (wBlob (wNum (wHash (wNum (wNum (wNum (wNum (wHash (z) (x.t.chan)) (x.t.serial)) (x.t.face)) (x.t.wins)) (x.t.many)) (x.t.commit)) (x.t.client)) (x.t.sig)) (x.salt) (by omega) w1 (wz) hw1) ?_
     refine jnt ?_
     refine jc_region ?_
     refine jz ?_
     refine jz ?_
     refine jz ?_
     refine jz ?_
     refine jy (y_indexAddr_slice (off := oo + i * 10) rfl rfl (by omega) (by omega) (by omega)) ?_
     refine jz ?_
     refine jy (y_load_old rfl (hold 9 _ rfl) (by simp)) ?_
     refine juc (goes_func rfl) (fun w1 hw1 => rwnum_any b10 (wBlob (wBlob (wNum (wHash (wNum (wNum (wNum (wNum (wHash (z) (x.t.chan)) (x.t.serial)) (x.t.face)) (x.t.wins)) (x.t.many)) (x.t.commit)) (x.t.client)) (x.t.sig)) (x.salt)) (x.drawn) hfx.drawn w1 (wz) hw1) ?_
     refine jl_nil ?_
     refine jq_block ?_
     refine jq_then ?_
     refine jc_region ?_
     refine jz ?_
     refine jy (y_add_fits rfl rfl (by simp only [fits]; omega)) ?_
     refine jz ?_
     refine jl_nil ?_
     refine jq_round (i := i) (i + 1) ?_ ?_ ?_
     ·omega
     ·exact ⟨rfl, rfl, lk_int rfl (by omega), trivial⟩
     ·exact fun _ h => ⟨by omega, h.pop.cast (by rw [wWins_take hlt, hxe, hz]; rfl)⟩
     )
   ·first
    | (exfalso; omega)
    | (
     refine jnt ?_
     refine jc_false rfl ?_
     refine jc_exit ?_
     refine jq_then_exit ?_
     refine jq_then_exit ?_
     refine jq_hit ?_
     refine jq_then ?_
     refine jsr ?_
     refine jz ?_
     refine jpc (goes_func rfl) (fun w1 hw1 => rwtext_any b10 (wWins (pfHead p) (p.wins.take i)) w1 (CellAt.of_cells (hw1.get (A := .cells b10 [.string (wWins (pfHead p) (p.wins.take i)).1, .int .i64 (wWins (pfHead p) (p.wins.take i)).2]) mem0) rfl) (CellAt.of_cells (hw1.get (A := .cells b10 [.string (wWins (pfHead p) (p.wins.take i)).1, .int .i64 (wWins (pfHead p) (p.wins.take i)).2]) mem0) rfl)) ?_
     refine jz ?_
     refine jnt ?_
     refine jc_ret ?_
     refine jq_ret1 rfl rfl ?_
     exact fun _ hw => ⟨by unfold pfEnc pfPut; rw [if_pos hrb, List.take_of_length_le (by omega)], hw.ch⟩
     )
 ·skip
  refine jz ?_
  refine jnt ?_
  refine jc_true rfl ?_
  refine jsr ?_
  refine jz ?_
  refine jnt ?_
  refine jc_ret ?_
  refine jq_then_ret ?_
  refine jq_ret1 rfl rfl ?_
  exact fun _ hw => ⟨by unfold pfEnc; rw [if_neg (by simp_all)], hw.ch⟩

end Go.Proofs.YtddpoigfliaklaaGreat