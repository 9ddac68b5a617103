/- The walks of laws 8 and 9's helpers: what is cut. Written by program (walk.py) out of a table of contracts and invariants. -/
import Derived.Test.YtomhcibbalhgkaaGreatCh
namespace Go.Proofs.YtomhcibbalhgkaaGreat
open Go.RowKit
set_option maxRecDepth 100000
set_option maxHeartbeats 2000000
set_option linter.unusedVariables false
set_option linter.unusedSimpArgs false
attribute [local irreducible] Yields Makes Writes
def cutS (s : ByteArray) (n : Nat) : ByteArray := s.extract 0 (min s.size n)
theorem cutS_size (s : ByteArray) (n : Nat) : (cutS s n).size ≤ n := by simp [cutS]; omega
theorem cut_eq (s : ByteArray) (n : Nat) : s.extract 0 (min (s.size : Int) (n : Int)).toNat = cutS s n := by
  unfold cutS; congr 1; omega
theorem all_snoc {l : List ByteArray} {x : ByteArray} {n : Nat} (h : ∀ p ∈ l, p.size ≤ n) (hx : x.size ≤ n) : ∀ p ∈ l ++ [x], p.size ≤ n := by
  intro p hp
  rcases List.mem_append.1 hp with hp | hp
  · exact h p hp
  · rw [List.mem_singleton.1 hp]; exact hx
def ctTk (t : Tk) : Tk := ⟨cutS t.chan 40, t.serial, t.face, t.wins, t.many, cutS t.commit 40, t.client, cutS t.sig 450⟩
def ctWn (x : Wn) : Wn := ⟨ctTk x.t, cutS x.salt 40, x.drawn⟩
def ctPf (p : Pf) : Pf := ⟨p.amount, cutS p.sig 450, cutS p.token 40, (p.wins.take 6).map ctWn⟩
def ctOu (o : Oup) : Oup := ⟨o.kind, o.amount, cutS o.key 40, cutS o.gate 40, o.expiry, cutS o.anchor 40, o.unit, o.tokens, cutS o.of 40⟩
def ctIn (i : Inp) : Inp := ⟨⟨cutS i.pt.tx 40, i.pt.out⟩, i.path, cutS i.sig 450⟩
def ctTx (t : Trx) : Trx := ⟨(t.ins.take 6).map ctIn, (t.outs.take 6).map ctOu, ctPf t.pf⟩
theorem take_six {α : Type} {l : List α} {i : Nat} (h : i ≤ l.length ∧ i ≤ 6) (h2 : l.length ≤ i ∨ 6 ≤ i) : l.take i = l.take 6 ∧ (l.take 6).length = i := by
  rw [List.length_take]
  rcases h2 with h2 | h2
  · exact ⟨by rw [List.take_of_length_le h2, List.take_of_length_le (by omega)], by omega⟩
  · exact ⟨by rw [show i = 6 by omega], by omega⟩
theorem take_flat {α β : Type} {f : α → β} {c : β → List Value} {l : List α} {i : Nat} (h : i < l.length) : ((l.take (i + 1)).map f).flatMap c = ((l.take i).map f).flatMap c ++ c (f l[i]) := by
  rw [List.take_succ_eq_append_getElem h, List.map_append, List.flatMap_append]
  simp

theorem cuttk_any (t : Tk) (w : World) :
  Calls Tryz.prog 108 #[.agg (Tk.c t).toArray] w fun e w' => e = .returned (.agg (Tk.c (ctTk t)).toArray) ∧ Ch [] w w' := by
 refine calls_of (n := 28) (E := [(0, .agg (Tk.c t).toArray)]) (W := Hp w [] []) Tryz.func108 rfl rfl (Nat.le_of_ble_eq_true rfl) rfl (Hp.nil _ _) ?_
 refine jsr ?_
 refine jl_m rfl (by decide) rfl (m_box rfl rfl) (fun b1 => ?_)
 refine jl_m rfl (by decide) rfl (m_alloc) (fun b2 => ?_)
 refine jnt ?_
 refine jsr ?_
 refine jz ?_
 refine jz ?_
 refine jz ?_
 refine jz ?_
 refine jy (y_len_str rfl) ?_
 refine jy (y_min rfl rfl) ?_
 refine jy (y_substr_hi rfl rfl (by omega) (by omega)) ?_
 refine jl_as (congrArg Value.string (cut_eq _ 40)) ?_
 refine jz ?_
 refine jst ?_
 refine jnt ?_
 refine jsr ?_
 refine jz ?_
 refine jz ?_
 refine jz ?_
 refine jz ?_
 refine jy (y_len_str rfl) ?_
 refine jy (y_min rfl rfl) ?_
 refine jy (y_substr_hi rfl rfl (by omega) (by omega)) ?_
 refine jl_as (congrArg Value.string (cut_eq _ 40)) ?_
 refine jz ?_
 refine jst ?_
 refine jnt ?_
 refine jsr ?_
 refine jz ?_
 refine jz ?_
 refine jz ?_
 refine jz ?_
 refine jy (y_len_str rfl) ?_
 refine jy (y_min rfl rfl) ?_
 refine jy (y_substr_hi rfl rfl (by omega) (by omega)) ?_
 refine jl_as (congrArg Value.string (cut_eq _ 450)) ?_
 refine jz ?_
 refine jst ?_
 refine jnt ?_
 refine jsr ?_
 refine jz ?_
 refine jst ?_
 refine jnt ?_
 refine jc_ret ?_
 refine jq_res (.inl rfl) rfl (.cell rfl (by first | exact ld_agg (by first | exact mem0 | exact mem1 | exact mem2 | exact mem3 | exact mem4 | exact mem5) (by repeat constructor) | exact ld_agg (by first | exact mem0 | exact mem1 | exact mem2 | exact mem3 | exact mem4 | exact mem5) (by assumption)) .nil) ?_
 exact fun _ hw => ⟨rfl, hw.ch⟩

theorem cutwn_any (x : Wn) (w : World) :
  Calls Tryz.prog 87 #[.agg (Wn.c x).toArray] w fun e w' => e = .returned (.agg (Wn.c (ctWn x)).toArray) ∧ Ch [] w w' := by
 refine calls_of (n := 16) (E := [(0, .agg (Wn.c x).toArray)]) (W := Hp w [] []) Tryz.func87 rfl rfl (Nat.le_of_ble_eq_true rfl) rfl (Hp.nil _ _) ?_
 refine jsr ?_
 refine jl_m rfl (by decide) rfl (m_box rfl rfl) (fun b1 => ?_)
 refine jl_m rfl (by decide) rfl (m_alloc) (fun b2 => ?_)
 refine jnt ?_
 refine jc_seq ?_
 refine jc_tail 13 (by kernel_rfl) (fun _ h => h.drew) ?_
 simp only [List.take_succ_cons, List.take_zero, List.drop_succ_cons, List.drop_zero]
 refine jtz ?_
 refine jtz ?_
 refine jt_call rfl (by decide) rfl (goes_func rfl) (fun w1 hw1 => pcall hw1 (cuttk_any x.t w1)) ?_
 refine jtz ?_
 refine jtz ?_
 refine jtz ?_
 refine jtz ?_
 refine jty (y_len_str rfl) ?_
 refine jty (y_min rfl rfl) ?_
 refine jty (y_substr_hi rfl rfl (by omega) (by omega)) ?_
 refine jt_as (congrArg Value.string (cut_eq _ 40)) ?_
 refine jtz ?_
 refine jtz ?_
 refine jty (y_build (Built.agg rfl rfl rfl (by repeat constructor) (Built.cell rfl rfl rfl (by repeat constructor) (Built.cell rfl rfl rfl (by repeat constructor) Built.nil)))) ?_
 refine jt_nil ?_
 refine jst ?_
 refine jnt ?_
 refine jc_ret ?_
 refine jq_res (.inl rfl) rfl (.cell rfl (by first | exact ld_agg (by first | exact mem0 | exact mem1 | exact mem2 | exact mem3 | exact mem4 | exact mem5) (by repeat constructor) | exact ld_agg (by first | exact mem0 | exact mem1 | exact mem2 | exact mem3 | exact mem4 | exact mem5) (by assumption)) .nil) ?_
 exact fun _ hw => ⟨rfl, hw.ch⟩

theorem cutou_any (o : Oup) (w : World) :
  Calls Tryz.prog 20 #[.agg (Oup.c o).toArray] w fun e w' => e = .returned (.agg (Oup.c (ctOu o)).toArray) ∧ Ch [] w w' := by
 refine calls_of (n := 36) (E := [(0, .agg (Oup.c o).toArray)]) (W := Hp w [] []) Tryz.func20 rfl rfl (Nat.le_of_ble_eq_true rfl) rfl (Hp.nil _ _) ?_
 refine jsr ?_
 refine jl_m rfl (by decide) rfl (m_box rfl rfl) (fun b1 => ?_)
 refine jl_m rfl (by decide) rfl (m_alloc) (fun b2 => ?_)
 refine jnt ?_
 refine jsr ?_
 refine jz ?_
 refine jz ?_
 refine jz ?_
 refine jz ?_
 refine jy (y_len_str rfl) ?_
 refine jy (y_min rfl rfl) ?_
 refine jy (y_substr_hi rfl rfl (by omega) (by omega)) ?_
 refine jl_as (congrArg Value.string (cut_eq _ 40)) ?_
 refine jz ?_
 refine jst ?_
 refine jnt ?_
 refine jsr ?_
 refine jz ?_
 refine jz ?_
 refine jz ?_
 refine jz ?_
 refine jy (y_len_str rfl) ?_
 refine jy (y_min rfl rfl) ?_
 refine jy (y_substr_hi rfl rfl (by omega) (by omega)) ?_
 refine jl_as (congrArg Value.string (cut_eq _ 40)) ?_
 refine jz ?_
 refine jst ?_
 refine jnt ?_
 refine jsr ?_
 refine jz ?_
 refine jz ?_
 refine jz ?_
 refine jz ?_
 refine jy (y_len_str rfl) ?_
 refine jy (y_min rfl rfl) ?_
 refine jy (y_substr_hi rfl rfl (by omega) (by omega)) ?_
 refine jl_as (congrArg Value.string (cut_eq _ 40)) ?_
 refine jz ?_
 refine jst ?_
 refine jnt ?_
 refine jsr ?_
 refine jz ?_
 refine jz ?_
 refine jz ?_
 refine jz ?_
 refine jy (y_len_str rfl) ?_
 refine jy (y_min rfl rfl) ?_
 refine jy (y_substr_hi rfl rfl (by omega) (by omega)) ?_
 refine jl_as (congrArg Value.string (cut_eq _ 40)) ?_
 refine jz ?_
 refine jst ?_
 refine jnt ?_
 refine jsr ?_
 refine jz ?_
 refine jst ?_
 refine jnt ?_
 refine jc_ret ?_
 refine jq_res (.inl rfl) rfl (.cell rfl (by first | exact ld_agg (by first | exact mem0 | exact mem1 | exact mem2 | exact mem3 | exact mem4 | exact mem5) (by repeat constructor) | exact ld_agg (by first | exact mem0 | exact mem1 | exact mem2 | exact mem3 | exact mem4 | exact mem5) (by assumption)) .nil) ?_
 exact fun _ hw => ⟨rfl, hw.ch⟩

theorem cutpf_any (p : Pf) (ad : Option Addr) (c : Nat) (w : World) (hE : ElAt w ad 10 (p.wins.map Wn.c)) :
  Calls Tryz.prog 53 #[.agg (Pf.c p ad c).toArray] w fun e w' => ∃ pr : Option Addr × Nat, e = .returned (.agg (Pf.c (ctPf p) pr.1 pr.2).toArray) ∧ Fresh w w' (.row pr.1 (ctPf p).wins.length pr.2 135 10 ((ctPf p).wins.flatMap Wn.c)) := by
 refine calls_of (n := 45) (E := [(0, .agg (Pf.c p ad c).toArray)]) (W := Hp w [] []) Tryz.func53 rfl rfl (Nat.le_of_ble_eq_true rfl) rfl (Hp.nil _ _) ?_
 refine jsr ?_
 refine jl_m rfl (by decide) rfl (m_box rfl rfl) (fun b1 => ?_)
 refine jl_m rfl (by decide) rfl (m_alloc) (fun b2 => ?_)
 refine jnt ?_
 refine jc_seq ?_
 refine jc_sched 18 [(0, true), (1, true), (2, true), (3, true), (4, true), (5, true), (6, true), (7, true), (8, true), (9, true), (10, true), (11, true), (12, true), (13, true), (14, true), (15, true), (16, true), (17, false)] rfl (by kernel_rfl) (fun _ _ _ _ h => h) (fun _ h => h.drew) ?_
 simp only [pickO, nthO, List.drop_succ_cons, List.drop_zero]
 refine jkz ?_
 refine jkz ?_
 refine jkz ?_
 refine jkz ?_
 refine jkz ?_
 refine jkz ?_
 refine jky (y_len_str rfl) ?_
 refine jky (y_min rfl rfl) ?_
 refine jky (y_substr_hi rfl rfl (by omega) (by omega)) ?_
 refine js_as (congrArg Value.string (cut_eq _ 450)) ?_
 refine jkz ?_
 refine jkz ?_
 refine jkz ?_
 refine jkz ?_
 refine jky (y_len_str rfl) ?_
 refine jky (y_min rfl rfl) ?_
 refine jky (y_substr_hi rfl rfl (by omega) (by omega)) ?_
 refine js_as (congrArg Value.string (cut_eq _ 40)) ?_
 refine jky (y_build (Built.cell rfl rfl rfl (by repeat constructor) (Built.cell rfl rfl rfl (by repeat constructor) (Built.cell rfl rfl rfl (by repeat constructor) Built.nil)))) ?_
 refine js_m (by intros; rename_i h; first | exact h | exact h.pop | exact h.pop.pop | exact h.pop.pop.pop | exact h.pop.pop.pop.pop | exact h.pop.pop.pop.pop.pop | exact h.pop.pop.pop.pop.pop.pop | exact h.part .nil) rfl (by decide) rfl (m_alloc) (fun b3 => ?_)
 refine js_nil ?_
 refine jst ?_
 refine jnt ?_
 refine jc_seq ?_
 refine jsr ?_
 refine jz ?_
 refine jnt ?_
 refine jc_block ?_
 refine jc_loop3 (fun (i : Nat) (au : Option Addr) (cu : Nat) => [(1, .pointer (some ⟨b1, 0, none⟩)), (2, .pointer (some ⟨b2, 0, none⟩)), (3, .pointer (some ⟨b3, 0, none⟩)), (4, .int .i64 (i : Nat))]) (fun (i : Nat) (au : Option Addr) (cu : Nat) => fun w' => (i ≤ p.wins.length ∧ i ≤ 6) ∧ Hp w [] [.row au (i) cu 135 10 (((p.wins.take (i)).map ctWn).flatMap Wn.c), .cells b3 [.int .u64 p.amount, .string (cutS p.sig 450), .string (cutS p.token 40), .slice au (i) cu], .cells b2 [.int .u64 0, .string ⟨#[]⟩, .string ⟨#[]⟩, .slice none 0 0], .cells b1 (Pf.c p ad c)] w') (fun (i : Nat) (au : Option Addr) (cu : Nat) => 6 - i) 0 none 0 ?_ ?_ ?_
 ·exact ⟨rfl, rfl, rfl, rfl, trivial⟩
 ·exact fun _ h => ⟨⟨by omega, by omega⟩, h.nilrow 135 10⟩
 ·intro i au cu
  refine jc_and (fun hi => ?_)
  refine jc_seq ?_
  refine jsr ?_
  refine jz ?_
  refine jz ?_
  refine jz ?_
  refine jy (y_len_slice rfl) ?_
  refine jy (y_lss rfl rfl) ?_
  refine jl_prop (fun h26 => ?_) (fun h26 => ?_)
  ·first
   | (exfalso; omega)
   | (
    refine jz ?_
    refine jz ?_
    refine jy (y_lss rfl rfl) ?_
    refine jl_prop (fun h29 => ?_) (fun h29 => ?_)
    ·first
     | (exfalso; omega)
     | (
      have hlt : i < p.wins.length := by omega
      have hnx := take_flat (f := ctWn) (c := Wn.c) hlt
      obtain ⟨bb, oo, ea, hold⟩ := hE.get hlt
      subst ea
      generalize hxe : p.wins[i]'hlt = x at *
      refine jy (y_pick_true rfl rfl) ?_
      refine jnt ?_
      refine jc_true rfl ?_
      refine jc_skip ?_
      refine jq_then ?_
      refine jc_seq ?_
      refine jc_block ?_
      refine jc_schedC (Hp w [] [.cells b3 [.int .u64 p.amount, .string (cutS p.sig 450), .string (cutS p.token 40), .slice au (i) cu], .cells b1 (Pf.c p (some ⟨bb, oo, none⟩) c)]) 9 [(0, true), (1, true), (2, true), (3, true), (4, true), (5, true), (6, true), (7, false), (8, false)] rfl (by kernel_rfl) (fun _ _ _ _ h => h) (fun _ h => (h.part (.cons (by first | exact del0 | exact del1 | exact del2) (.cons (by first | exact del0 | exact del1 | exact del2 | exact del3) .nil))).drew) (fun _ h => h.drew) ?_
      simp only [pickO, nthO, List.drop_succ_cons, List.drop_zero]
      refine jkz ?_
      refine jkz ?_
      refine jkz ?_
      refine jkz ?_
      refine jkz ?_
      refine jky (y_indexAddr_slice (off := oo + i * 10) rfl rfl (by omega) (by omega) (by omega)) ?_
      refine jky (y_loadAgg_old rfl rfl hold (by simp)) ?_
      refine js_pcall (by intro _ h; exact h.part (.cons (by first | exact del0 | exact del1 | exact del2) (.cons (by first | exact del0 | exact del1 | exact del2 | exact del3) .nil))) rfl (by decide) rfl (goes_func rfl) (fun w1 hw1 => pcall hw1 (cutwn_any x w1)) ?_
      refine js_m (by intros; rename_i h; exact h.part (.cons (by first | exact del0 | exact del1 | exact del2) (.cons (by first | exact del0 | exact del1 | exact del2 | exact del3) .nil))) rfl (by decide) rfl (m_buildSlice (size := 10) (by decide) (Built.agg rfl rfl rfl (by repeat constructor) Built.nil)) (fun b41 => ?_)
      refine js_nil ?_
      refine jl_m2 rfl (by decide) rfl (m_append rfl rfl (by first | exact del0 | exact del1 | exact del2 | exact del3 | exact del4) (by first | exact del0 | exact del1 | exact del2 | exact del3 | exact del4) rfl (by omega) (by omega)) (fun a42 c42 => ?_)
      refine jz ?_
      refine jst ?_
      refine jl_nil ?_
      refine jq_block ?_
      refine jq_then ?_
      refine jc_region ?_
      refine jz ?_
      refine jy (y_add_fits rfl rfl (by simp only [fits]; omega)) ?_
      refine jz ?_
      refine jl_nil ?_
      refine jq_round3 (i := i) (j := au) (l := cu) (i + 1) a42 c42 ?_ ?_ ?_
      ·omega
      ·exact ⟨rfl, rfl, rfl, lk_int rfl (by omega), trivial⟩
      ·exact fun _ h => ⟨⟨by omega, by omega⟩, h.cast (by rw [hnx]; rfl)⟩
      )
    ·first
     | (exfalso; omega)
     | (
      refine jy (y_pick_true rfl rfl) ?_
      refine jnt ?_
      refine jc_false rfl ?_
      refine jc_exit ?_
      refine jq_then_exit ?_
      refine jq_then_exit ?_
      refine jq_hit ?_
      refine jq_then ?_
      refine jsr ?_
      refine jz ?_
      refine jst ?_
      refine jnt ?_
      refine jc_ret ?_
      refine jq_res (.inl rfl) rfl (.cell rfl (by first | exact ld_agg (by first | exact mem0 | exact mem1 | exact mem2 | exact mem3 | exact mem4 | exact mem5) (by repeat constructor) | exact ld_agg (by first | exact mem0 | exact mem1 | exact mem2 | exact mem3 | exact mem4 | exact mem5) (by assumption)) .nil) ?_
      exact fun _ hw => (by obtain ⟨e1, e2⟩ := take_six hi (by omega); have hl : (ctPf p).wins.length = i := (by show ((p.wins.take 6).map ctWn).length = i; rw [List.length_map]; exact e2); exact ⟨(au, cu), by simp only [Pf.c, hl]; rfl, by rw [hl, show (ctPf p).wins = (p.wins.take i).map ctWn by rw [e1]; rfl]; exact (hw.part (.cons del0 .nil)).fresh⟩)
      )
    )
  ·first
   | (exfalso; omega)
   | (
    refine jz ?_
    refine jsk ?_
    refine jsk ?_
    refine jy (y_pick_false rfl rfl) ?_
    refine jnt ?_
    refine jc_false rfl ?_
    refine jc_exit ?_
    refine jq_then_exit ?_
    refine jq_then_exit ?_
    refine jq_hit ?_
    refine jq_then ?_
    refine jsr ?_
    refine jz ?_
    refine jst ?_
    refine jnt ?_
    refine jc_ret ?_
    refine jq_res (.inl rfl) rfl (.cell rfl (by first | exact ld_agg (by first | exact mem0 | exact mem1 | exact mem2 | exact mem3 | exact mem4 | exact mem5) (by repeat constructor) | exact ld_agg (by first | exact mem0 | exact mem1 | exact mem2 | exact mem3 | exact mem4 | exact mem5) (by assumption)) .nil) ?_
    exact fun _ hw => (by obtain ⟨e1, e2⟩ := take_six hi (by omega); have hl : (ctPf p).wins.length = i := (by show ((p.wins.take 6).map ctWn).length = i; rw [List.length_map]; exact e2); exact ⟨(au, cu), by simp only [Pf.c, hl]; rfl, by rw [hl, show (ctPf p).wins = (p.wins.take i).map ctWn by rw [e1]; rfl]; exact (hw.part (.cons del0 .nil)).fresh⟩)
    )

theorem cuttx_any (t : Trx) (a1 : Option Addr) (c1 : Nat) (a2 : Option Addr) (c2 : Nat) (a3 : Option Addr) (c3 : Nat) (w : World) (h1 : ElAt w a1 4 (t.ins.map Inp.c)) (h2 : ElAt w a2 9 (t.outs.map Oup.c)) (h3 : ElAt w a3 10 (t.pf.wins.map Wn.c)) :
  Calls Tryz.prog 19 #[.agg (Trx.c t a1 c1 a2 c2 a3 c3).toArray] w fun e w' => ∃ pr : (Option Addr × Nat) × (Option Addr × Nat) × (Option Addr × Nat), e = .returned (.agg (Trx.c (ctTx t) pr.1.1 pr.1.2 pr.2.1.1 pr.2.1.2 pr.2.2.1 pr.2.2.2).toArray) ∧ Hp w [] [.row pr.1.1 (ctTx t).ins.length pr.1.2 97 4 ((ctTx t).ins.flatMap Inp.c), .row pr.2.1.1 (ctTx t).outs.length pr.2.1.2 56 9 ((ctTx t).outs.flatMap Oup.c), .row pr.2.2.1 (ctTx t).pf.wins.length pr.2.2.2 135 10 ((ctTx t).pf.wins.flatMap Wn.c)] w' := by
 refine calls_of (n := 75) (E := [(0, .agg (Trx.c t a1 c1 a2 c2 a3 c3).toArray)]) (W := Hp w [] []) Tryz.func19 rfl rfl (Nat.le_of_ble_eq_true rfl) rfl (Hp.nil _ _) ?_
 refine jsr ?_
 refine jl_m rfl (by decide) rfl (m_box rfl rfl) (fun b1 => ?_)
 refine jl_m rfl (by decide) rfl (m_alloc) (fun b2 => ?_)
 refine jnt ?_
 refine jsr ?_
 refine jz ?_
 refine jz ?_
 refine jl_fcall rfl (by decide) rfl (goes_func rfl) (fun w1 hw1 => cutpf_any t.pf a3 c3 w1 (h3.keep hw1)) (fun pq => ?_)
 refine jy (y_build (Built.agg rfl rfl rfl (by repeat constructor) Built.nil)) ?_
 refine jl_m rfl (by decide) rfl (m_alloc) (fun b3 => ?_)
 refine jst ?_
 refine jnt ?_
 refine jc_seq ?_
 refine jsr ?_
 refine jz ?_
 refine jnt ?_
 refine jc_block ?_
 refine jc_loop3 (fun (i : Nat) (au : Option Addr) (cu : Nat) => [(1, .pointer (some ⟨b1, 0, none⟩)), (2, .pointer (some ⟨b2, 0, none⟩)), (3, .pointer (some ⟨b3, 0, none⟩)), (4, .int .i64 (i : Nat))]) (fun (i : Nat) (au : Option Addr) (cu : Nat) => fun w' => (i ≤ t.ins.length ∧ i ≤ 6) ∧ Hp w [] [.row au (i) cu 97 4 (((t.ins.take (i)).map ctIn).flatMap Inp.c), .cells b3 [.slice au (i) cu, .slice none (0) 0, .int .u64 (ctPf t.pf).amount, .string (ctPf t.pf).sig, .string (ctPf t.pf).token, .slice pq.1 (ctPf t.pf).wins.length pq.2], .row pq.1 (ctPf t.pf).wins.length pq.2 135 10 ((ctPf t.pf).wins.flatMap Wn.c), .cells b2 [.slice none (0) 0, .slice none (0) 0, .int .u64 0, .string ⟨#[]⟩, .string ⟨#[]⟩, .slice none 0 0], .cells b1 (Trx.c t a1 c1 a2 c2 a3 c3)] w') (fun (i : Nat) (au : Option Addr) (cu : Nat) => 6 - i) 0 none 0 ?_ ?_ ?_
 ·exact ⟨rfl, rfl, rfl, rfl, trivial⟩
 ·exact fun _ h => ⟨⟨by omega, by omega⟩, h.nilrow 97 4⟩
 ·intro i au cu
  refine jc_and (fun hi => ?_)
  refine jc_seq ?_
  refine jsr ?_
  refine jz ?_
  refine jz ?_
  refine jz ?_
  refine jy (y_len_slice rfl) ?_
  refine jy (y_lss rfl rfl) ?_
  refine jl_prop (fun h15 => ?_) (fun h15 => ?_)
  ·first
   | (exfalso; omega)
   | (
    refine jz ?_
    refine jz ?_
    refine jy (y_lss rfl rfl) ?_
    refine jl_prop (fun h18 => ?_) (fun h18 => ?_)
    ·first
     | (exfalso; omega)
     | (
      have hlt : i < t.ins.length := by omega
      have hnx := take_flat (f := ctIn) (c := Inp.c) hlt
      obtain ⟨bb, oo, ea, hold⟩ := h1.get hlt
      subst ea
      generalize hxe : t.ins[i]'hlt = x at *
      refine jy (y_pick_true rfl rfl) ?_
      refine jnt ?_
      refine jc_true rfl ?_
      refine jc_skip ?_
      refine jq_then ?_
      refine jc_seq ?_
      refine jc_block ?_
      refine jsr ?_
      refine jz ?_
      refine jz ?_
      refine jz ?_
      refine jy (y_indexAddr_slice (off := oo + i * 4) rfl rfl (by omega) (by omega) (by omega)) ?_
      refine jy (y_loadAgg_old rfl rfl hold (by simp)) ?_
      refine jl_m rfl (by decide) rfl (m_alloc) (fun b5 => ?_)
      refine jst ?_
      refine jnt ?_
      refine jsr ?_
      refine jz ?_
      refine jz ?_
      refine jz ?_
      refine jz ?_
      refine jz ?_
      refine jz ?_
      refine jy (y_len_str rfl) ?_
      refine jy (y_min rfl rfl) ?_
      refine jy (y_substr_hi rfl rfl (by omega) (by omega)) ?_
      refine jl_as (congrArg Value.string (cut_eq _ 40)) ?_
      refine jz ?_
      refine jz ?_
      refine jst ?_
      refine jnt ?_
      refine jsr ?_
      refine jz ?_
      refine jz ?_
      refine jz ?_
      refine jz ?_
      refine jy (y_len_str rfl) ?_
      refine jy (y_min rfl rfl) ?_
      refine jy (y_substr_hi rfl rfl (by omega) (by omega)) ?_
      refine jl_as (congrArg Value.string (cut_eq _ 450)) ?_
      refine jz ?_
      refine jst ?_
      refine jnt ?_
      refine jc_region ?_
      refine jz ?_
      refine jz ?_
      refine jz ?_
      refine jl_m rfl (by decide) rfl (m_buildSlice (size := 4) (by decide) (Built.agg rfl rfl rfl (by repeat constructor) Built.nil)) (fun b49 => ?_)
      refine jl_m2 rfl (by decide) rfl (m_append rfl rfl (by first | exact del0 | exact del1 | exact del2 | exact del3 | exact del4) (by first | exact del0 | exact del1 | exact del2 | exact del3 | exact del4) rfl (by omega) (by omega)) (fun a50 c50 => ?_)
      refine jz ?_
      refine jst ?_
      refine jl_nil ?_
      refine jq_block ?_
      refine jq_then ?_
      refine jc_region ?_
      refine jz ?_
      refine jy (y_add_fits rfl rfl (by simp only [fits]; omega)) ?_
      refine jz ?_
      refine jl_nil ?_
      refine jq_round3 (i := i) (j := au) (l := cu) (i + 1) a50 c50 ?_ ?_ ?_
      ·omega
      ·exact ⟨rfl, rfl, rfl, lk_int rfl (by omega), trivial⟩
      ·exact fun _ h => ⟨⟨by omega, by omega⟩, (h.part (.cons del0 (.cons del1 (.cons del1 (.cons del1 (.cons del1 .nil)))))).cast (by rw [hnx]; rfl)⟩
      )
    ·first
     | (exfalso; omega)
     | (
      refine jy (y_pick_true rfl rfl) ?_
      refine jnt ?_
      refine jc_false rfl ?_
      refine jc_exit ?_
      refine jq_then_exit ?_
      refine jq_then_exit ?_
      refine jq_hit ?_
      refine jq_then ?_
      refine jc_seq ?_
      refine jsr ?_
      refine jz ?_
      refine jnt ?_
      refine jc_block ?_
      refine jc_loop3 (fun (j : Nat) (av : Option Addr) (cv : Nat) => [(1, .pointer (some ⟨b1, 0, none⟩)), (2, .pointer (some ⟨b2, 0, none⟩)), (3, .pointer (some ⟨b3, 0, none⟩)), (6, .int .i64 (j : Nat))]) (fun (j : Nat) (av : Option Addr) (cv : Nat) => fun w' => (j ≤ t.outs.length ∧ j ≤ 6) ∧ Hp w [] [.row av (j) cv 56 9 (((t.outs.take (j)).map ctOu).flatMap Oup.c), .row au (i) cu 97 4 (((t.ins.take (i)).map ctIn).flatMap Inp.c), .cells b3 [.slice au (i) cu, .slice av (j) cv, .int .u64 (ctPf t.pf).amount, .string (ctPf t.pf).sig, .string (ctPf t.pf).token, .slice pq.1 (ctPf t.pf).wins.length pq.2], .row pq.1 (ctPf t.pf).wins.length pq.2 135 10 ((ctPf t.pf).wins.flatMap Wn.c), .cells b2 [.slice none (0) 0, .slice none (0) 0, .int .u64 0, .string ⟨#[]⟩, .string ⟨#[]⟩, .slice none 0 0], .cells b1 (Trx.c t a1 c1 a2 c2 a3 c3)] w') (fun (j : Nat) (av : Option Addr) (cv : Nat) => 6 - j) 0 none 0 ?_ ?_ ?_
      ·exact ⟨rfl, rfl, rfl, rfl, trivial⟩
      ·exact fun _ h => ⟨⟨by omega, by omega⟩, h.nilrow 56 9⟩
      ·intro j av cv
       refine jc_and (fun hj => ?_)
       refine jc_seq ?_
       refine jsr ?_
       refine jz ?_
       refine jz ?_
       refine jz ?_
       refine jy (y_len_slice rfl) ?_
       refine jy (y_lss rfl rfl) ?_
       refine jl_prop (fun h56 => ?_) (fun h56 => ?_)
       ·first
        | (exfalso; omega)
        | (
         refine jz ?_
         refine jz ?_
         refine jy (y_lss rfl rfl) ?_
         refine jl_prop (fun h59 => ?_) (fun h59 => ?_)
         ·first
          | (exfalso; omega)
          | (
           have hlt : j < t.outs.length := by omega
           have hnx := take_flat (f := ctOu) (c := Oup.c) hlt
           obtain ⟨bb, oo, ea, hold⟩ := h2.get hlt
           subst ea
           generalize hxe : t.outs[j]'hlt = x at *
           refine jy (y_pick_true rfl rfl) ?_
           refine jnt ?_
           refine jc_true rfl ?_
           refine jc_skip ?_
           refine jq_then ?_
           refine jc_seq ?_
           refine jc_block ?_
           refine jc_schedC (Hp w [] [.cells b3 [.slice au (i) cu, .slice av (j) cv, .int .u64 (ctPf t.pf).amount, .string (ctPf t.pf).sig, .string (ctPf t.pf).token, .slice pq.1 (ctPf t.pf).wins.length pq.2], .cells b1 (Trx.c t a1 c1 (some ⟨bb, oo, none⟩) c2 a3 c3)]) 9 [(0, true), (1, true), (2, true), (3, true), (4, true), (5, true), (6, true), (7, false), (8, false)] rfl (by kernel_rfl) (fun _ _ _ _ h => h) (fun _ h => (h.part (.cons (by first | exact del0 | exact del1 | exact del2 | exact del3) (.cons (by first | exact del3 | exact del4 | exact .tail del4 | exact .tail (.tail del4)) .nil))).drew) (fun _ h => h.drew) ?_
           simp only [pickO, nthO, List.drop_succ_cons, List.drop_zero]
           refine jkz ?_
           refine jkz ?_
           refine jkz ?_
           refine jkz ?_
           refine jkz ?_
           refine jky (y_indexAddr_slice (off := oo + j * 9) rfl rfl (by omega) (by omega) (by omega)) ?_
           refine jky (y_loadAgg_old rfl rfl hold (by simp)) ?_
           refine js_pcall (by intro _ h; exact h.part (.cons (by first | exact del0 | exact del1 | exact del2 | exact del3) (.cons (by first | exact del3 | exact del4 | exact .tail del4 | exact .tail (.tail del4)) .nil))) rfl (by decide) rfl (goes_func rfl) (fun w1 hw1 => pcall hw1 (cutou_any x w1)) ?_
           refine js_m (by intros; rename_i h; exact h.part (.cons (by first | exact del0 | exact del1 | exact del2 | exact del3) (.cons (by first | exact del3 | exact del4 | exact .tail del4 | exact .tail (.tail del4)) .nil))) rfl (by decide) rfl (m_buildSlice (size := 9) (by decide) (Built.agg rfl rfl rfl (by repeat constructor) Built.nil)) (fun b71 => ?_)
           refine js_nil ?_
           refine jl_m2 rfl (by decide) rfl (m_append rfl rfl (by first | exact del0 | exact del1 | exact del2 | exact del3 | exact del4) (by first | exact del0 | exact del1 | exact del2 | exact del3 | exact del4) rfl (by omega) (by omega)) (fun a72 c72 => ?_)
           refine jz ?_
           refine jst ?_
           refine jl_nil ?_
           refine jq_block ?_
           refine jq_then ?_
           refine jc_region ?_
           refine jz ?_
           refine jy (y_add_fits rfl rfl (by simp only [fits]; omega)) ?_
           refine jz ?_
           refine jl_nil ?_
           refine jq_round3 (i := j) (j := av) (l := cv) (j + 1) a72 c72 ?_ ?_ ?_
           ·omega
           ·exact ⟨rfl, rfl, rfl, lk_int rfl (by omega), trivial⟩
           ·exact fun _ h => ⟨⟨by omega, by omega⟩, h.cast (by rw [hnx]; rfl)⟩
           )
         ·first
          | (exfalso; omega)
          | (
           refine jy (y_pick_true rfl rfl) ?_
           refine jnt ?_
           refine jc_false rfl ?_
           refine jc_exit ?_
           refine jq_then_exit ?_
           refine jq_then_exit ?_
           refine jq_hit ?_
           refine jq_then ?_
           refine jsr ?_
           refine jz ?_
           refine jst ?_
           refine jnt ?_
           refine jc_ret ?_
           refine jq_res (.inl rfl) rfl (.cell rfl (by first | exact ld_agg (by first | exact mem0 | exact mem1 | exact mem2 | exact mem3 | exact mem4 | exact mem5) (by repeat constructor) | exact ld_agg (by first | exact mem0 | exact mem1 | exact mem2 | exact mem3 | exact mem4 | exact mem5) (by assumption)) .nil) ?_
           exact fun _ hw => (by obtain ⟨e1, e2⟩ := take_six hi (by omega); obtain ⟨f1, f2⟩ := take_six hj (by omega); have hl1 : (ctTx t).ins.length = i := (by show ((t.ins.take 6).map ctIn).length = i; rw [List.length_map]; exact e2); have hl2 : (ctTx t).outs.length = j := (by show ((t.outs.take 6).map ctOu).length = j; rw [List.length_map]; exact f2); exact ⟨((au, cu), (av, cv), pq), by simp only [Trx.c, hl1, hl2]; rfl, by rw [hl1, hl2, show (ctTx t).ins = (t.ins.take i).map ctIn by rw [e1]; rfl, show (ctTx t).outs = (t.outs.take j).map ctOu by rw [f1]; rfl]; exact hw.part (.cons del1 (.cons del0 (.cons del1 .nil)))⟩)
           )
         )
       ·first
        | (exfalso; omega)
        | (
         refine jz ?_
         refine jsk ?_
         refine jsk ?_
         refine jy (y_pick_false rfl rfl) ?_
         refine jnt ?_
         refine jc_false rfl ?_
         refine jc_exit ?_
         refine jq_then_exit ?_
         refine jq_then_exit ?_
         refine jq_hit ?_
         refine jq_then ?_
         refine jsr ?_
         refine jz ?_
         refine jst ?_
         refine jnt ?_
         refine jc_ret ?_
         refine jq_res (.inl rfl) rfl (.cell rfl (by first | exact ld_agg (by first | exact mem0 | exact mem1 | exact mem2 | exact mem3 | exact mem4 | exact mem5) (by repeat constructor) | exact ld_agg (by first | exact mem0 | exact mem1 | exact mem2 | exact mem3 | exact mem4 | exact mem5) (by assumption)) .nil) ?_
         exact fun _ hw => (by obtain ⟨e1, e2⟩ := take_six hi (by omega); obtain ⟨f1, f2⟩ := take_six hj (by omega); have hl1 : (ctTx t).ins.length = i := (by show ((t.ins.take 6).map ctIn).length = i; rw [List.length_map]; exact e2); have hl2 : (ctTx t).outs.length = j := (by show ((t.outs.take 6).map ctOu).length = j; rw [List.length_map]; exact f2); exact ⟨((au, cu), (av, cv), pq), by simp only [Trx.c, hl1, hl2]; rfl, by rw [hl1, hl2, show (ctTx t).ins = (t.ins.take i).map ctIn by rw [e1]; rfl, show (ctTx t).outs = (t.outs.take j).map ctOu by rw [f1]; rfl]; exact hw.part (.cons del1 (.cons del0 (.cons del1 .nil)))⟩)
         )
      )
    )
  ·first
   | (exfalso; omega)
   | (
    refine jz ?_
    refine jsk ?_
    refine jsk ?_
    refine jy (y_pick_false rfl rfl) ?_
    refine jnt ?_
    refine jc_false rfl ?_
    refine jc_exit ?_
    refine jq_then_exit ?_
    refine jq_then_exit ?_
    refine jq_hit ?_
    refine jq_then ?_
    refine jc_seq ?_
    refine jsr ?_
    refine jz ?_
    refine jnt ?_
    refine jc_block ?_
    refine jc_loop3 (fun (j : Nat) (av : Option Addr) (cv : Nat) => [(1, .pointer (some ⟨b1, 0, none⟩)), (2, .pointer (some ⟨b2, 0, none⟩)), (3, .pointer (some ⟨b3, 0, none⟩)), (6, .int .i64 (j : Nat))]) (fun (j : Nat) (av : Option Addr) (cv : Nat) => fun w' => (j ≤ t.outs.length ∧ j ≤ 6) ∧ Hp w [] [.row av (j) cv 56 9 (((t.outs.take (j)).map ctOu).flatMap Oup.c), .row au (i) cu 97 4 (((t.ins.take (i)).map ctIn).flatMap Inp.c), .cells b3 [.slice au (i) cu, .slice av (j) cv, .int .u64 (ctPf t.pf).amount, .string (ctPf t.pf).sig, .string (ctPf t.pf).token, .slice pq.1 (ctPf t.pf).wins.length pq.2], .row pq.1 (ctPf t.pf).wins.length pq.2 135 10 ((ctPf t.pf).wins.flatMap Wn.c), .cells b2 [.slice none (0) 0, .slice none (0) 0, .int .u64 0, .string ⟨#[]⟩, .string ⟨#[]⟩, .slice none 0 0], .cells b1 (Trx.c t a1 c1 a2 c2 a3 c3)] w') (fun (j : Nat) (av : Option Addr) (cv : Nat) => 6 - j) 0 none 0 ?_ ?_ ?_
    ·exact ⟨rfl, rfl, rfl, rfl, trivial⟩
    ·exact fun _ h => ⟨⟨by omega, by omega⟩, h.nilrow 56 9⟩
    ·intro j av cv
     refine jc_and (fun hj => ?_)
     refine jc_seq ?_
     refine jsr ?_
     refine jz ?_
     refine jz ?_
     refine jz ?_
     refine jy (y_len_slice rfl) ?_
     refine jy (y_lss rfl rfl) ?_
     refine jl_prop (fun h56 => ?_) (fun h56 => ?_)
     ·first
      | (exfalso; omega)
      | (
       refine jz ?_
       refine jz ?_
       refine jy (y_lss rfl rfl) ?_
       refine jl_prop (fun h59 => ?_) (fun h59 => ?_)
       ·first
        | (exfalso; omega)
        | (
         have hlt : j < t.outs.length := by omega
         have hnx := take_flat (f := ctOu) (c := Oup.c) hlt
         obtain ⟨bb, oo, ea, hold⟩ := h2.get hlt
         subst ea
         generalize hxe : t.outs[j]'hlt = x at *
         refine jy (y_pick_true rfl rfl) ?_
         refine jnt ?_
         refine jc_true rfl ?_
         refine jc_skip ?_
         refine jq_then ?_
         refine jc_seq ?_
         refine jc_block ?_
         refine jc_schedC (Hp w [] [.cells b3 [.slice au (i) cu, .slice av (j) cv, .int .u64 (ctPf t.pf).amount, .string (ctPf t.pf).sig, .string (ctPf t.pf).token, .slice pq.1 (ctPf t.pf).wins.length pq.2], .cells b1 (Trx.c t a1 c1 (some ⟨bb, oo, none⟩) c2 a3 c3)]) 9 [(0, true), (1, true), (2, true), (3, true), (4, true), (5, true), (6, true), (7, false), (8, false)] rfl (by kernel_rfl) (fun _ _ _ _ h => h) (fun _ h => (h.part (.cons (by first | exact del0 | exact del1 | exact del2 | exact del3) (.cons (by first | exact del3 | exact del4 | exact .tail del4 | exact .tail (.tail del4)) .nil))).drew) (fun _ h => h.drew) ?_
         simp only [pickO, nthO, List.drop_succ_cons, List.drop_zero]
         refine jkz ?_
         refine jkz ?_
         refine jkz ?_
         refine jkz ?_
         refine jkz ?_
         refine jky (y_indexAddr_slice (off := oo + j * 9) rfl rfl (by omega) (by omega) (by omega)) ?_
         refine jky (y_loadAgg_old rfl rfl hold (by simp)) ?_
         refine js_pcall (by intro _ h; exact h.part (.cons (by first | exact del0 | exact del1 | exact del2 | exact del3) (.cons (by first | exact del3 | exact del4 | exact .tail del4 | exact .tail (.tail del4)) .nil))) rfl (by decide) rfl (goes_func rfl) (fun w1 hw1 => pcall hw1 (cutou_any x w1)) ?_
         refine js_m (by intros; rename_i h; exact h.part (.cons (by first | exact del0 | exact del1 | exact del2 | exact del3) (.cons (by first | exact del3 | exact del4 | exact .tail del4 | exact .tail (.tail del4)) .nil))) rfl (by decide) rfl (m_buildSlice (size := 9) (by decide) (Built.agg rfl rfl rfl (by repeat constructor) Built.nil)) (fun b71 => ?_)
         refine js_nil ?_
         refine jl_m2 rfl (by decide) rfl (m_append rfl rfl (by first | exact del0 | exact del1 | exact del2 | exact del3 | exact del4) (by first | exact del0 | exact del1 | exact del2 | exact del3 | exact del4) rfl (by omega) (by omega)) (fun a72 c72 => ?_)
         refine jz ?_
         refine jst ?_
         refine jl_nil ?_
         refine jq_block ?_
         refine jq_then ?_
         refine jc_region ?_
         refine jz ?_
         refine jy (y_add_fits rfl rfl (by simp only [fits]; omega)) ?_
         refine jz ?_
         refine jl_nil ?_
         refine jq_round3 (i := j) (j := av) (l := cv) (j + 1) a72 c72 ?_ ?_ ?_
         ·omega
         ·exact ⟨rfl, rfl, rfl, lk_int rfl (by omega), trivial⟩
         ·exact fun _ h => ⟨⟨by omega, by omega⟩, h.cast (by rw [hnx]; rfl)⟩
         )
       ·first
        | (exfalso; omega)
        | (
         refine jy (y_pick_true rfl rfl) ?_
         refine jnt ?_
         refine jc_false rfl ?_
         refine jc_exit ?_
         refine jq_then_exit ?_
         refine jq_then_exit ?_
         refine jq_hit ?_
         refine jq_then ?_
         refine jsr ?_
         refine jz ?_
         refine jst ?_
         refine jnt ?_
         refine jc_ret ?_
         refine jq_res (.inl rfl) rfl (.cell rfl (by first | exact ld_agg (by first | exact mem0 | exact mem1 | exact mem2 | exact mem3 | exact mem4 | exact mem5) (by repeat constructor) | exact ld_agg (by first | exact mem0 | exact mem1 | exact mem2 | exact mem3 | exact mem4 | exact mem5) (by assumption)) .nil) ?_
         exact fun _ hw => (by obtain ⟨e1, e2⟩ := take_six hi (by omega); obtain ⟨f1, f2⟩ := take_six hj (by omega); have hl1 : (ctTx t).ins.length = i := (by show ((t.ins.take 6).map ctIn).length = i; rw [List.length_map]; exact e2); have hl2 : (ctTx t).outs.length = j := (by show ((t.outs.take 6).map ctOu).length = j; rw [List.length_map]; exact f2); exact ⟨((au, cu), (av, cv), pq), by simp only [Trx.c, hl1, hl2]; rfl, by rw [hl1, hl2, show (ctTx t).ins = (t.ins.take i).map ctIn by rw [e1]; rfl, show (ctTx t).outs = (t.outs.take j).map ctOu by rw [f1]; rfl]; exact hw.part (.cons del1 (.cons del0 (.cons del1 .nil)))⟩)
         )
       )
     ·first
      | (exfalso; omega)
      | (
       refine jz ?_
       refine jsk ?_
       refine jsk ?_
       refine jy (y_pick_false rfl rfl) ?_
       refine jnt ?_
       refine jc_false rfl ?_
       refine jc_exit ?_
       refine jq_then_exit ?_
       refine jq_then_exit ?_
       refine jq_hit ?_
       refine jq_then ?_
       refine jsr ?_
       refine jz ?_
       refine jst ?_
       refine jnt ?_
       refine jc_ret ?_
       refine jq_res (.inl rfl) rfl (.cell rfl (by first | exact ld_agg (by first | exact mem0 | exact mem1 | exact mem2 | exact mem3 | exact mem4 | exact mem5) (by repeat constructor) | exact ld_agg (by first | exact mem0 | exact mem1 | exact mem2 | exact mem3 | exact mem4 | exact mem5) (by assumption)) .nil) ?_
       exact fun _ hw => (by obtain ⟨e1, e2⟩ := take_six hi (by omega); obtain ⟨f1, f2⟩ := take_six hj (by omega); have hl1 : (ctTx t).ins.length = i := (by show ((t.ins.take 6).map ctIn).length = i; rw [List.length_map]; exact e2); have hl2 : (ctTx t).outs.length = j := (by show ((t.outs.take 6).map ctOu).length = j; rw [List.length_map]; exact f2); exact ⟨((au, cu), (av, cv), pq), by simp only [Trx.c, hl1, hl2]; rfl, by rw [hl1, hl2, show (ctTx t).ins = (t.ins.take i).map ctIn by rw [e1]; rfl, show (ctTx t).outs = (t.outs.take j).map ctOu by rw [f1]; rfl]; exact hw.part (.cons del1 (.cons del0 (.cons del1 .nil)))⟩)
       )
    )

end Go.Proofs.YtomhcibbalhgkaaGreat