/- The walk of law 10's fixed calls. Written by program (walk.py) out of a table of contracts and invariants. -/
import Derived.Test.YtomhcibbalhgkaaBl
import Derived.Test.YtomhcibbalhgkaaJr
namespace Go.Proofs.Ytomhcibbalhgkaa
open Go.RowKit
set_option maxRecDepth 100000
set_option maxHeartbeats 2000000
set_option linter.unusedVariables false
set_option linter.unusedSimpArgs false
def ctBk (b : Blk) : Blk := ⟨b.height, cutS b.prev 40, (b.txs.take 9).map ctTx⟩
theorem take_top {α : Type} {l : List α} {i n : Nat} (h : i ≤ l.length ∧ i ≤ n) (h2 : l.length ≤ i ∨ n ≤ i) : l.take i = l.take n := by
  rcases h2 with h2 | h2
  · rw [List.take_of_length_le h2, List.take_of_length_le (by omega)]
  · rw [show i = n by omega]
theorem ct_next {l m : List Txq} {i : Nat} {q : Txq} (h : i < l.length) (e : txsQ m = ((txsQ l).take i).map ctTx) (hq : q.t = ctTx l[i].t := by rfl) : txsQ (m ++ [q]) = ((txsQ l).take (i + 1)).map ctTx := by
  have h1 : txsQ (m ++ [q]) = txsQ m ++ [q.t] := by simp
  rw [h1, List.take_succ_eq_append_getElem (by rw [List.length_map]; exact h), List.map_append, e, hq, List.getElem_map]; rfl
theorem bkdec_sub (S : ByteArray) (w : World) (hS : S.size ≤ 1000000000) : Calls Try.prog 8 #[.string S] w fun e w' => ∃ q : {q : Blq // q.b = bkDec S}, e = .returned (.tuple #[.agg (Blq.c q.1).toArray, .int .i64 (bkErr S)]) ∧ Hp w [] (q.1.rows 41 45 75 113) w' :=
  (bkdec_any S w hS).mono fun _ _ ⟨q, h1, h2, h3⟩ => ⟨⟨q, h2⟩, h1, h3⟩
theorem low_dec {q : Blq} {S : ByteArray} (h : q.b = bkDec S) : (∀ x ∈ q.l, Low x.t) ∧ (∀ x ∈ q.l, x.t.Fit) ∧ q.l.length ≤ 8 ∧ fits .i64 q.height := by
  have ht : txsQ q.l = (bkDec S).txs := congrArg Blk.txs h
  have hh : q.height = (bkDec S).height := congrArg Blk.height h
  have hl : q.l.length = (bkDec S).txs.length := by rw [← ht, List.length_map]
  by_cases e : bkErr S = 0
  · have hr := (bkEnc_dec e).1
    obtain ⟨r1, r2, r3, r4, r5⟩ := bkRight_iff.1 hr
    refine ⟨fun x hx => low_right (r5 x.t (by rw [← ht]; exact List.mem_map.2 ⟨x, hx, rfl⟩)), fun x hx => ?_, by omega, by rw [hh]; simp only [fits]; omega⟩
    have hm : x.t ∈ (bkL S).1.map txDec := by
      have h2 : x.t ∈ (bkDec S).txs := by rw [← ht]; exact List.mem_map.2 ⟨x, hx, rfl⟩
      unfold bkDec at h2; rw [if_pos e] at h2; exact h2
    obtain ⟨y, _, e2⟩ := List.mem_map.1 hm
    rw [← e2]; exact txDec_fit y
  · have h0 : (bkDec S) = bk0 := bkDec_bad e
    rw [h0] at ht hh hl
    have hn : q.l = [] := List.length_eq_zero_iff.1 hl
    rw [hn]
    refine ⟨fun x hx => (by cases hx), fun x hx => (by cases hx), by simp, by rw [hh]; exact ⟨by decide, by decide⟩⟩

theorem cutbk_of (qh : Int) (qp : ByteArray) (l : List Txq) (ad : Option Addr) (cp : Nat) (w : World) (hE : TxsAt w ad l) :
  Calls Try.prog 6 #[.agg (Blq.c ⟨qh, qp, l, ad, cp⟩).toArray] w fun e w' => ∃ q : {q : Blq // q.b = ctBk (Blq.b ⟨qh, qp, l, ad, cp⟩)}, e = .returned (.agg (Blq.c q.1).toArray) ∧ Hp w [] (q.1.rows 41 45 75 113) w' := by
 refine calls_of (n := 38) (E := [(0, .agg (Blq.c ⟨qh, qp, l, ad, cp⟩).toArray)]) (W := Hp w [] []) Try.func6 rfl rfl (Nat.le_of_ble_eq_true rfl) rfl (Hp.nil _ _) ?_
 refine jsr ?_
 refine jl_m rfl (by decide) rfl (m_box rfl rfl) (fun b1 => ?_)
 refine jl_m rfl (by decide) rfl (m_alloc) (fun b2 => ?_)
 refine jnt ?_
 refine jc_seq ?_
 refine jc_sched 11 [(0, true), (1, true), (2, true), (3, true), (4, true), (5, true), (6, true), (7, true), (8, true), (9, true), (10, false)] rfl (by kernel_rfl) (fun _ _ _ _ h => h) (fun _ h => h.drew) ?_
 simp only [pickO, nthO, List.drop_succ_cons, List.drop_zero]
 refine jkz ?_
 refine jkz ?_
 refine jkz ?_
 refine jkz ?_
 refine jkz ?_
 refine jkz ?_
 refine jky (y_len_str rfl) ?_
 refine jky (y_min rfl rfl) ?_
 refine jky (y_substr_hi rfl rfl (by omega) (by omega)) ?_
 refine js_as (congrArg Value.string (cut_eq _ 40)) ?_
 refine jky (y_build (Built.cell rfl rfl rfl (by repeat constructor) (Built.cell rfl rfl rfl (by repeat constructor) Built.nil))) ?_
 refine js_m (by intros; rename_i h; first | exact h | exact h.pop | exact h.pop.pop | exact h.pop.pop.pop | exact h.pop.pop.pop.pop | exact h.pop.pop.pop.pop.pop | exact h.pop.pop.pop.pop.pop.pop | exact h.part .nil) rfl (by decide) rfl (m_alloc) (fun b3 => ?_)
 refine js_nil ?_
 refine jst ?_
 refine jnt ?_
 refine jc_seq ?_
 refine jsr ?_
 refine jz ?_
 refine jnt ?_
 refine jc_block ?_
 refine jc_loop4 (fun (i : Nat) (m : List Txq) (au : Option Addr) (cu : Nat) => [(1, .pointer (some ⟨b1, 0, none⟩)), (2, .pointer (some ⟨b2, 0, none⟩)), (3, .pointer (some ⟨b3, 0, none⟩)), (4, .int .i64 (i : Nat))]) (fun (i : Nat) (m : List Txq) (au : Option Addr) (cu : Nat) => fun w' => ((i ≤ l.length ∧ i ≤ 9) ∧ m.length = i ∧ txsQ m = ((txsQ l).take i).map ctTx) ∧ Hp w [] (.row au (m).length cu 41 6 ((m).flatMap Txq.c) :: .cells b3 [.int .i64 qh, .string (cutS qp 40), .slice au m.length cu] :: .cells b2 [.int .i64 0, .string ⟨#[]⟩, .slice none 0 0] :: .cells b1 (Blq.c ⟨qh, qp, l, ad, cp⟩) :: rowsQ 45 75 113 m) w') (fun (i : Nat) (m : List Txq) (au : Option Addr) (cu : Nat) => 9 - i) 0 [] none 0 ?_ ?_ ?_
 ·exact ⟨rfl, rfl, rfl, rfl, trivial⟩
 ·exact fun _ h => ⟨⟨by omega, rfl, rfl⟩, h.nilrow 41 6⟩
 ·intro i m au cu
  refine jc_and (fun hi => ?_)
  refine jc_seq ?_
  refine jsr ?_
  refine jz ?_
  refine jz ?_
  refine jz ?_
  refine jy (y_len_slice rfl) ?_
  refine jl_as (u := .int .i64 ((l.length : Nat) : Int)) rfl ?_
  refine jy (y_lss rfl rfl) ?_
  refine jl_prop (fun h19 => ?_) (fun h19 => ?_)
  ·first
   | (exfalso; omega)
   | (
    have hlt : i < l.length := by omega
    obtain ⟨bb, oo, ea, hold⟩ := hE.get hlt
    subst ea
    have hqa := hE.each _ (List.getElem_mem hlt)
    have hcn := @ct_next l m i
    generalize hxe : l[i]'hlt = q at *
    refine jz ?_
    refine jz ?_
    refine jy (y_lss rfl rfl) ?_
    refine jl_prop (fun h22 => ?_) (fun h22 => ?_)
    ·first
     | (exfalso; omega)
     | (
      refine jy (y_pick_true rfl rfl) ?_
      refine jnt ?_
      refine jc_true rfl ?_
      refine jc_skip ?_
      refine jq_then ?_
      refine jc_seq ?_
      refine jc_block ?_
      refine jc_schedC (Hp w [] [.cells b3 [.int .i64 qh, .string (cutS qp 40), .slice au m.length cu], .cells b1 (Blq.c ⟨qh, qp, l, some ⟨bb, oo, none⟩, cp⟩)]) 11 [(0, true), (1, true), (2, true), (3, true), (4, true), (5, true), (6, true), (7, false), (8, false), (9, false), (10, true)] rfl (by kernel_rfl) (fun _ _ _ _ h => h) (fun _ h => (h.part (.cons (by first | exact del0 | exact del1 | exact del2 | exact del3 | exact del4 | exact .tail del4 | exact .tail (.tail del4) | exact .tail (.tail (.tail del4))) (.cons (by first | exact del0 | exact del1 | exact del2 | exact del3 | exact del4 | exact .tail del4 | exact .tail (.tail del4) | exact .tail (.tail (.tail del4))) .nil))).drew) (fun _ h => h.drew) ?_
      simp only [pickO, nthO, List.drop_succ_cons, List.drop_zero]
      refine jkz ?_
      refine jkz ?_
      refine jkz ?_
      refine jkz ?_
      refine jkz ?_
      refine jky (y_indexAddr_slice (off := oo + i * 6) rfl rfl (by omega) (by omega) (by omega)) ?_
      refine jky (y_loadAgg_old rfl rfl hold (by simp)) ?_
      refine js_gcall3 (by intros; rename_i h; exact h.part (.cons (by first | exact del0 | exact del1 | exact del2 | exact del3 | exact del4 | exact .tail del4 | exact .tail (.tail del4) | exact .tail (.tail (.tail del4))) (.cons (by first | exact del0 | exact del1 | exact del2 | exact del3 | exact del4 | exact .tail del4 | exact .tail (.tail del4) | exact .tail (.tail (.tail del4))) .nil))) rfl (by decide) rfl (goes_func rfl) (fun w1 hw1 => cuttx_any q.t q.a1 q.c1 q.a2 q.c2 q.a3 q.c3 w1 (hqa.ins.keep hw1) (hqa.outs.keep hw1) (hqa.wins.keep hw1)) (fun pd => ?_)
      refine js_m (by intros; rename_i h; exact h.part (.cons (by first | exact del0 | exact del1 | exact del2 | exact del3 | exact del4 | exact .tail del4 | exact .tail (.tail del4) | exact .tail (.tail (.tail del4))) (.cons (by first | exact del0 | exact del1 | exact del2 | exact del3 | exact del4 | exact .tail del4 | exact .tail (.tail del4) | exact .tail (.tail (.tail del4))) .nil))) rfl (by decide) rfl (m_buildSlice (size := 6) (by decide) (Built.agg rfl rfl rfl (by repeat constructor) Built.nil)) (fun b34 => ?_)
      refine js_m2z rfl (by decide) rfl (m_append rfl rfl (by first | exact del0 | exact del1 | exact del2 | exact del3 | exact del4) (by first | exact del0 | exact del1 | exact del2 | exact del3 | exact del4) rfl (by omega) (by omega)) (by intros; rename_i h; exact h.part (.cons (by first | exact del0 | exact del1 | exact del2 | exact del3 | exact del4 | exact .tail del4 | exact .tail (.tail del4) | exact .tail (.tail (.tail del4))) (.cons (by first | exact del0 | exact del1 | exact del2 | exact del3 | exact del4 | exact .tail del4 | exact .tail (.tail del4) | exact .tail (.tail (.tail del4))) .nil))) (fun a35 c35 => ?_)
      refine jkz ?_
      refine js_nil ?_
      refine jst ?_
      refine jl_nil ?_
      refine jq_block ?_
      refine jq_then ?_
      refine jc_region ?_
      refine jz ?_
      refine jy (y_add_fits rfl rfl (by simp only [fits]; omega)) ?_
      refine jz ?_
      refine jl_nil ?_
      refine jq_round4 (i := i) (j := m) (l := au) (m := cu) (i + 1) (m ++ [⟨ctTx q.t, pd.1.1, pd.1.2, pd.2.1.1, pd.2.1.2, pd.2.2.1, pd.2.2.2⟩]) a35 c35 ?_ ?_ ?_
      ·omega
      ·exact ⟨rfl, rfl, rfl, lk_int rfl (by omega), trivial⟩
      ·exact fun _ h => ⟨⟨by omega, by rw [List.length_append, hi.2.1]; rfl, hcn hlt hi.2.2 (by show ctTx q.t = _; rw [hxe])⟩, (Hp.snocQ (ti := 45) (to := 75) (tw := 113) (F := [.row a35 (m.length + 1) c35 41 6 (m.flatMap Txq.c ++ Txq.c ⟨ctTx q.t, pd.1.1, pd.1.2, pd.2.1.1, pd.2.1.2, pd.2.2.1, pd.2.2.2⟩), .cells b3 [.int .i64 qh, .string (cutS qp 40), .slice a35 (m.length + 1) c35], .cells b2 [.int .i64 0, .string ⟨#[]⟩, .slice none 0 0], .cells b1 (Blq.c ⟨qh, qp, l, some ⟨bb, oo, none⟩, cp⟩)]) ⟨ctTx q.t, pd.1.1, pd.1.2, pd.2.1.1, pd.2.1.2, pd.2.2.1, pd.2.2.2⟩ (Hp.partA [_, _, _, _, _, _, _] [.row pd.1.1 (ctTx q.t).ins.length pd.1.2 45 4 ((ctTx q.t).ins.flatMap Inp.c), .row pd.2.1.1 (ctTx q.t).outs.length pd.2.1.2 75 9 ((ctTx q.t).outs.flatMap Oup.c), .row pd.2.2.1 (ctTx q.t).pf.wins.length pd.2.2.2 113 10 ((ctTx q.t).pf.wins.flatMap Wn.c), .row a35 (m.length + 1) c35 41 6 (m.flatMap Txq.c ++ Txq.c ⟨ctTx q.t, pd.1.1, pd.1.2, pd.2.1.1, pd.2.1.2, pd.2.2.1, pd.2.2.2⟩), .cells b3 [.int .i64 qh, .string (cutS qp 40), .slice a35 (m.length + 1) c35], .cells b2 [.int .i64 0, .string ⟨#[]⟩, .slice none 0 0], .cells b1 (Blq.c ⟨qh, qp, l, some ⟨bb, oo, none⟩, cp⟩)] h (.cons del1 (.cons del1 (.cons del1 (.cons del0 (.cons del0 (.cons del0 (.cons del0 .nil))))))))).cast (by rw [List.length_append, List.flatMap_append]; simp)⟩
      )
    ·first
     | (exfalso; omega)
     | (
      refine jy (y_pick_true rfl rfl) ?_
      refine jnt ?_
      refine jc_false rfl ?_
      refine jc_exit ?_
      refine jq_then_exit ?_
      refine jq_then_exit ?_
      refine jq_hit ?_
      refine jq_then ?_
      refine jsr ?_
      refine jz ?_
      refine jst ?_
      refine jnt ?_
      refine jc_ret ?_
      refine jq_res (.inl rfl) rfl (.cell rfl (by first | exact ld_agg (by first | exact mem0 | exact mem1 | exact mem2 | exact mem3 | exact mem4 | exact mem5) (by repeat constructor) | exact ld_agg (by first | exact mem0 | exact mem1 | exact mem2 | exact mem3 | exact mem4 | exact mem5) (by assumption)) .nil) ?_
      exact fun _ hw => ⟨⟨⟨qh, cutS qp 40, m, au, cu⟩, by show Blk.mk _ _ _ = Blk.mk _ _ _; rw [hi.2.2, take_top (n := 9) (by rw [List.length_map]; exact hi.1) (by rw [List.length_map]; omega)]⟩, rfl, (Hp.partA [_, _, _, _] [.row au (m).length cu 41 6 ((m).flatMap Txq.c)] hw (.cons del0 .nil) : Hp w [] (.row au (m).length cu 41 6 ((m).flatMap Txq.c) :: rowsQ 45 75 113 m) _)⟩
      )
    )
  ·first
   | (exfalso; omega)
   | (
    refine jz ?_
    refine jsk ?_
    refine jsk ?_
    refine jy (y_pick_false rfl rfl) ?_
    refine jnt ?_
    refine jc_false rfl ?_
    refine jc_exit ?_
    refine jq_then_exit ?_
    refine jq_then_exit ?_
    refine jq_hit ?_
    refine jq_then ?_
    refine jsr ?_
    refine jz ?_
    refine jst ?_
    refine jnt ?_
    refine jc_ret ?_
    refine jq_res (.inl rfl) rfl (.cell rfl (by first | exact ld_agg (by first | exact mem0 | exact mem1 | exact mem2 | exact mem3 | exact mem4 | exact mem5) (by repeat constructor) | exact ld_agg (by first | exact mem0 | exact mem1 | exact mem2 | exact mem3 | exact mem4 | exact mem5) (by assumption)) .nil) ?_
    exact fun _ hw => ⟨⟨⟨qh, cutS qp 40, m, au, cu⟩, by show Blk.mk _ _ _ = Blk.mk _ _ _; rw [hi.2.2, take_top (n := 9) (by rw [List.length_map]; exact hi.1) (by rw [List.length_map]; omega)]⟩, rfl, (Hp.partA [_, _, _, _] [.row au (m).length cu 41 6 ((m).flatMap Txq.c)] hw (.cons del0 .nil) : Hp w [] (.row au (m).length cu 41 6 ((m).flatMap Txq.c) :: rowsQ 45 75 113 m) _)⟩
    )

theorem cutbk_any (q : Blq) (w : World) (hE : TxsAt w q.ad q.l) : Calls Try.prog 6 #[.agg (Blq.c q).toArray] w fun e w' => ∃ r : {r : Blq // r.b = ctBk q.b}, e = .returned (.agg (Blq.c r.1).toArray) ∧ Hp w [] (r.1.rows 41 45 75 113) w' :=
  cutbk_of q.height q.prev q.l q.ad q.cp w hE
theorem low_cut {q : Blq} {b : Blk} (h : q.b = ctBk b) (hf : ∀ t ∈ b.txs, t.Fit) : (∀ x ∈ q.l, Low x.t) ∧ (∀ x ∈ q.l, x.t.Fit) ∧ q.l.length ≤ 9 := by
  have ht : txsQ q.l = (b.txs.take 9).map ctTx := congrArg Blk.txs h
  have hm : ∀ x ∈ q.l, ∃ y ∈ b.txs, x.t = ctTx y := fun x hx => by
    have h2 : x.t ∈ (b.txs.take 9).map ctTx := by rw [← ht]; exact List.mem_map.2 ⟨x, hx, rfl⟩
    obtain ⟨y, hy, e⟩ := List.mem_map.1 h2
    exact ⟨y, List.mem_of_mem_take hy, e.symm⟩
  refine ⟨fun x hx => ?_, fun x hx => ?_, ?_⟩
  · obtain ⟨y, _, e⟩ := hm x hx
    rw [e]
    have := ctTx_len y
    exact ⟨by omega, by omega, by omega⟩
  · obtain ⟨y, hy, e⟩ := hm x hx
    rw [e]; exact ctTx_fit (hf y hy)
  · have := congrArg List.length ht
    rw [List.length_map, List.length_map, List.length_take] at this
    omega
end Go.Proofs.Ytomhcibbalhgkaa

namespace Go.Proofs.Ytomhcibbalhgkaa
open Go.RowKit
set_option maxRecDepth 100000
set_option maxHeartbeats 1000000
set_option linter.unusedVariables false
set_option linter.unusedSimpArgs false
theorem cq {P : Program} {f : Nat} {a : Array Value} {w : World} {u v : Value} (h : Calls P f a w fun e w' => e = .returned v ∧ Ch [] w w') (e : v = u) : Calls P f a w fun e w' => e = .returned u ∧ Ch [] w w' := e ▸ h
def fbH : ByteArray := ⟨#[48, 49, 50, 51, 52, 53, 54, 55, 56, 57, 97, 98, 99, 100, 101, 102]⟩
def fbN : ByteArray := ⟨#[0, 0, 0, 0, 0, 0, 1, 2]⟩
def fbB : Blq := ⟨258, fbH, [], none, 0⟩
def fbO : Oup := ⟨1, 1, fbH, ⟨#[]⟩, 0, ⟨#[]⟩, 0, 0, ⟨#[]⟩⟩
def fbE : ByteArray := bkEnc fbB.b
def fbX : ByteArray := fbE ++ ⟨#[120]⟩
def fbY : ByteArray := ⟨#[]⟩
def fbZ : ByteArray := ⟨#[67]⟩
def fbF : ByteArray := ⟨#[0, 0, 0, 0, 0, 0, 0, 1]⟩ ++ fbH
theorem fbE_eq : bkEnc fbB.b = fbE := rfl
theorem fbX_eq : fbE ++ ⟨#[120]⟩ = fbX := rfl
theorem fbY_eq : Value.string ⟨#[]⟩ = .string fbY := rfl
theorem fbZ_eq : Value.string ⟨#[67]⟩ = .string fbZ := rfl
theorem fbF_eq : ⟨#[0, 0, 0, 0, 0, 0, 0, 1]⟩ ++ fbH = fbF := rfl
theorem fbE_size : fbE.size ≤ 100 := by decide +kernel
theorem fbX_size : fbX.size ≤ 100 := by decide +kernel
theorem fb2 : ⟨#[66, 0, 0, 0, 0, 0, 0, 1, 2]⟩ ++ fbH ++ ⟨#[0]⟩ = fbE := by decide +kernel
theorem fb3 : bkErr fbE = 0 := by decide +kernel
theorem fb3d : bkDec fbE = fbB.b := by decide +kernel
theorem fb4 : bkErr fbX = 4 := by decide +kernel
theorem fb5 : bkErr fbY = 3 := by decide +kernel
theorem fb6 : bkErr fbZ = 4 := by decide +kernel
theorem fbR : bkRight fbB.b = true := by decide +kernel
theorem fbR0 : bkRight bq0.b = false := by decide +kernel
theorem fbP : putS 258 = fbN := by decide +kernel
theorem fbID : bkID fbB.b = tagS strBlock [fbN, fbH, ⟨#[]⟩] := by
  unfold bkID
  rw [if_pos fbR]
  show tagS strBlock [putS 258, fbH, ⟨#[]⟩] = _
  rw [fbP]
theorem fbID0 : bkID bq0.b = ⟨#[]⟩ := by unfold bkID; rw [if_neg (by rw [fbR0]; decide)]
theorem fbFst : bkFirst [fbO] = tagS strFirst [fbF] := by
  unfold bkFirst
  rw [show catB ([fbO].map firstS) = fbF by decide +kernel]
theorem fbO_fit : ∀ o ∈ [fbO], o.Fit := fun o ho => by
  rw [List.mem_singleton.1 ho]
  exact ⟨(⟨by decide, by decide⟩ : fits .i64 1), (⟨by decide, by decide⟩ : fits .u64 1), (⟨by decide, by decide⟩ : fits .i64 0), (⟨by decide, by decide⟩ : fits .u64 0), (⟨by decide, by decide⟩ : fits .i64 0)⟩
theorem fbO_key : ∀ o ∈ [fbO], o.key.size ≤ 1000 := fun o ho => by rw [List.mem_singleton.1 ho]; decide
theorem no_tx {p : Txq → Prop} : ∀ x ∈ ([] : List Txq), p x := fun x hx => by cases hx
theorem z16 : fbH.size = 16 := by decide +kernel
theorem bkdec1 (w : World) : Calls Try.prog 8 #[.string fbE] w fun e w' => ∃ q : {q : Blq // q.b = fbB.b}, e = .returned (.tuple #[.agg (Blq.c q.1).toArray, .int .i64 0]) ∧ Hp w [] (q.1.rows 41 45 75 113) w' := by
  have h := bkdec_sub fbE w (by have := fbE_size; omega)
  rw [fb3] at h
  exact h.mono fun _ _ ⟨q, h1, h2⟩ => ⟨⟨q.1, q.2.trans fb3d⟩, h1, h2⟩
theorem bkdecE {S : ByteArray} {n : Int} (w : World) (hS : S.size ≤ 1000) (hn : bkErr S = n) : Calls Try.prog 8 #[.string S] w fun e w' => ∃ q : Blq, e = .returned (.tuple #[.agg (Blq.c q).toArray, .int .i64 n]) ∧ Hp w [] (q.rows 41 45 75 113) w' := by
  have h := bkdec_any S w (by omega)
  rw [hn] at h
  exact h.mono fun _ _ ⟨q, h1, _, h2⟩ => ⟨q, h1, h2⟩
theorem bkdecY (w : World) : Calls Try.prog 8 #[.string ⟨#[]⟩] w fun e w' => ∃ q : Blq, e = .returned (.tuple #[.agg (Blq.c q).toArray, .int .i64 3]) ∧ Hp w [] (q.rows 41 45 75 113) w' := bkdecE (S := fbY) w (by decide +kernel) fb5
theorem bkdecZ (w : World) : Calls Try.prog 8 #[.string ⟨#[67]⟩] w fun e w' => ∃ q : Blq, e = .returned (.tuple #[.agg (Blq.c q).toArray, .int .i64 4]) ∧ Hp w [] (q.rows 41 45 75 113) w' := bkdecE (S := fbZ) w (by decide +kernel) fb6
theorem txs_rows {q : Blq} {w0 w : World} {S : List Nat} {H : List HA} (h : Hp w0 S H w) (hm : ∀ A ∈ q.rows 41 45 75 113, A ∈ H) : TxsAt w q.ad q.l :=
  TxsAt.of_own (n := q.l.length) (ti := 45) (to := 75) (tw := 113) h (hm _ (.head _)) rfl fun A hA => hm A (.tail _ hA)
attribute [irreducible] fbE fbX fbY fbZ fbF

theorem fixed10_any (w : World) :
  Calls Try.prog 11 #[] w fun e w' => e = .returned (.bool true) ∧ Ch [] w w' := by
 refine calls_of (n := 106) (E := []) (W := Hp w [] []) Try.func11 rfl rfl (Nat.le_of_ble_eq_true rfl) rfl (Hp.nil _ _) ?_
 refine jsr ?_
 refine jz ?_
 refine jnt ?_
 refine jsr ?_
 refine jz ?_
 refine jl_as (u := .string fbH) rfl ?_
 refine jnt ?_
 refine jsr ?_
 refine jz ?_
 refine jy (y_build (Built.cell rfl rfl rfl (by repeat constructor) (Built.cell rfl rfl rfl (by repeat constructor) Built.nil))) ?_
 refine jl_m rfl (by decide) rfl (m_alloc) (fun b2 => ?_)
 refine jst ?_
 refine jnt ?_
 refine jc_seq ?_
 refine jc_world (fun _ h => h.cast (H' := [.cells b2 (Blq.c fbB)]) rfl) ?_
 refine jc_region ?_
 refine jy (y_loadAgg rfl mem0 (by repeat constructor)) ?_
 refine jpc (goes_func rfl) (fun w1 hw1 => cq (bkenc_any fbB w1 (by decide) (txs_none w1) no_tx no_tx ⟨by decide, by decide⟩) (congrArg Value.string fbE_eq)) ?_
 refine jz ?_
 refine jnt ?_
 refine jsr ?_
 refine jz ?_
 refine jl_gcallL rfl (by decide) rfl (goes_func rfl) (fun w1 hw1 => bkdec1 w1) (fun d1 => ?_)
 refine jz ?_
 refine jz ?_
 refine jz ?_
 refine jl_m rfl (by decide) rfl (m_alloc) (fun b4 => ?_)
 refine jst ?_
 refine jz ?_
 refine jnt ?_
 refine jc_seq ?_
 refine jc_rebase (fun wx hbx => ?_)
 have hB : Old wx b2 0 (Blq.c fbB) := Old.of_cells (hbx.get mem1)
 have hC : Old wx b4 0 (Blq.c d1.1) := Old.of_cells (hbx.get mem0)
 have hD : TxsAt wx d1.1.ad d1.1.l := txs_rows hbx (fun A hA => .tail _ (.tail _ hA))
 have hd8 := low_dec (d1.2.trans fb3d.symm)
 refine jc_region ?_
 refine jz ?_
 refine jy (y_concat rfl rfl (by first | omega | decide +kernel | (simp only [ByteArray.size_append]; have := fbE_size; have := z16; have h120 : (⟨#[120]⟩ : ByteArray).size = 1 := rfl; omega))) ?_
 refine jl_as (u := .string fbX) (congrArg Value.string fbX_eq) ?_
 refine jl_gcallL rfl (by decide) rfl (goes_func rfl) (fun w1 hw1 => bkdecE w1 (by have := fbX_size; omega) fb4) (fun d2 => ?_)
 refine jz ?_
 refine jz ?_
 refine jz ?_
 refine jl_m rfl (by decide) rfl (m_alloc) (fun b6 => ?_)
 refine jst ?_
 refine jz ?_
 refine jnt ?_
 refine jc_seq ?_
 refine jc_world (fun _ h => h.part (F := []) .nil) ?_
 refine jc_region ?_
 refine jl_gcallL rfl (by decide) rfl (goes_func rfl) (fun w1 hw1 => bkdecY w1) (fun d3 => ?_)
 refine jz ?_
 refine jz ?_
 refine jz ?_
 refine jl_m rfl (by decide) rfl (m_alloc) (fun b8 => ?_)
 refine jst ?_
 refine jz ?_
 refine jnt ?_
 refine jc_seq ?_
 refine jc_world (fun _ h => h.part (F := []) .nil) ?_
 refine jc_region ?_
 refine jl_gcallL rfl (by decide) rfl (goes_func rfl) (fun w1 hw1 => bkdecZ w1) (fun d4 => ?_)
 refine jz ?_
 refine jz ?_
 refine jz ?_
 refine jl_m rfl (by decide) rfl (m_alloc) (fun b10 => ?_)
 refine jst ?_
 refine jz ?_
 refine jnt ?_
 refine jc_seq ?_
 refine jc_world (fun _ h => h.part (F := []) .nil) ?_
 refine jc_region ?_
 refine jz ?_
 refine jy (y_build (Built.cell rfl rfl rfl (by repeat constructor) (Built.cell rfl rfl rfl (by repeat constructor) (Built.cell rfl rfl rfl (by repeat constructor) Built.nil)))) ?_
 refine jl_m rfl (by decide) rfl (m_buildSlice (size := 9) (by decide) (Built.agg rfl rfl rfl (by repeat constructor) Built.nil)) (fun b39 => ?_)
 refine jz ?_
 refine jnt ?_
 refine jc_seq ?_
 refine jc_world (fun _ h => h.cast (H' := [.row (some ⟨b39, 0, none⟩) 1 1 75 9 ([fbO].flatMap Oup.c)]) rfl) ?_
 refine jc_region ?_
 refine jz ?_
 refine jpc (goes_func rfl) (fun w1 hw1 => bbegin_any (some ⟨b39, 0, none⟩) [fbO] 1 w1 (by decide) (ElAt.of_row (l := [fbO]) (c := Oup.c) (fun _ => rfl) rfl (hw1.get mem0)) fbO_fit fbO_key 3) ?_
 refine jl_m rfl (by decide) rfl (m_alloc) (fun b13 => ?_)
 refine jst ?_
 refine jnt ?_
 refine jc_seq ?_
 refine jc_rebase (fun wy hby => ?_)
 have hO : ElAt wy (some ⟨b39, 0, none⟩) 9 ([fbO].map Oup.c) := ElAt.of_row (fun _ => rfl) rfl (hby.get mem1)
 have hP : Old wy b13 0 (Pnt.c ⟨bkFirst [fbO], 3⟩) := Old.of_cells (hby.get mem0)
 replace hB := hB.keep hby
 replace hC := hC.keep hby
 replace hD := hD.keep hby
 refine jc_drop [0] ?_
 refine jc_free (by kernel_rfl) Hp.stay ?_
 refine jn_y [] rfl rfl (fun w1 hw1 => And.intro rfl (y_move rfl)) ?_
 refine jn_y [] rfl rfl (fun w1 hw1 => And.intro rfl (y_move rfl)) ?_
 refine jn_y [1] rfl rfl (fun w1 hw1 => And.intro rfl (y_concat rfl rfl (by first | omega | decide +kernel | (simp only [ByteArray.size_append]; have := fbE_size; have := z16; have h120 : (⟨#[120]⟩ : ByteArray).size = 1 := rfl; omega)))) ?_
 refine jn_y [2] rfl rfl (fun w1 hw1 => And.intro rfl (y_concat rfl rfl (by first | omega | decide +kernel | (simp only [ByteArray.size_append]; have := fbE_size; have := z16; have h120 : (⟨#[120]⟩ : ByteArray).size = 1 := rfl; omega)))) ?_
 refine jn_as (u := .string fbE) (congrArg Value.string fb2) ?_
 refine jn_y [0, 3] rfl rfl (fun w1 hw1 => And.intro rfl (y_seql rfl rfl)) ?_
 refine jn_as (u := .bool true) (congrArg (fun b => Value.bool b) (decide_eq_true (rfl))) ?_
 refine jn_y [4] rfl rfl (fun w1 hw1 => And.intro rfl (y_move rfl)) ?_
 refine jn_y [5] rfl rfl (fun w1 hw1 => And.intro rfl (y_loadAgg_old rfl rfl (hB.keep hw1) (by simp))) ?_
 refine jn_y [5] rfl rfl (fun w1 hw1 => And.intro rfl (y_loadAgg_old rfl rfl (hC.keep hw1) (by simp))) ?_
 refine jn_call [5, 6, 7] rfl rfl (fun w1 hw1 => And.intro rfl ⟨_, _, goes_func rfl, cq (bksame_any fbB d1.1 w1 (by decide) (by have := hd8.2.2.1; omega) (txs_none w1) (hD.keep hw1) no_tx hd8.1) (congrArg Value.bool (decide_eq_true d1.2.symm))⟩) ?_
 refine jn_y [5, 8] rfl rfl (fun w1 hw1 => And.intro rfl (y_pick_true rfl rfl)) ?_
 refine jn_y [9] rfl rfl (fun w1 hw1 => And.intro rfl (y_move rfl)) ?_
 refine jn_y [10] rfl rfl (fun w1 hw1 => And.intro rfl (y_move rfl)) ?_
 refine jn_y [10, 11] rfl rfl (fun w1 hw1 => And.intro rfl (y_eql rfl rfl)) ?_
 refine jn_as (u := .bool true) (congrArg Value.bool (decide_eq_true rfl)) ?_
 refine jn_y [10, 12] rfl rfl (fun w1 hw1 => And.intro rfl (y_pick_true rfl rfl)) ?_
 refine jn_y [13] rfl rfl (fun w1 hw1 => And.intro rfl (y_move rfl)) ?_
 refine jn_y [14] rfl rfl (fun w1 hw1 => And.intro rfl (y_move rfl)) ?_
 refine jn_y [14, 15] rfl rfl (fun w1 hw1 => And.intro rfl (y_eql rfl rfl)) ?_
 refine jn_as (u := .bool true) (congrArg Value.bool (decide_eq_true rfl)) ?_
 refine jn_y [14, 16] rfl rfl (fun w1 hw1 => And.intro rfl (y_pick_true rfl rfl)) ?_
 refine jn_y [17] rfl rfl (fun w1 hw1 => And.intro rfl (y_move rfl)) ?_
 refine jn_y [18] rfl rfl (fun w1 hw1 => And.intro rfl (y_move rfl)) ?_
 refine jn_y [18, 19] rfl rfl (fun w1 hw1 => And.intro rfl (y_eql rfl rfl)) ?_
 refine jn_as (u := .bool true) (congrArg Value.bool (decide_eq_true rfl)) ?_
 refine jn_y [18, 20] rfl rfl (fun w1 hw1 => And.intro rfl (y_pick_true rfl rfl)) ?_
 refine jn_y [21] rfl rfl (fun w1 hw1 => And.intro rfl (y_move rfl)) ?_
 refine jn_y [22] rfl rfl (fun w1 hw1 => And.intro rfl (y_move rfl)) ?_
 refine jn_y [22, 23] rfl rfl (fun w1 hw1 => And.intro rfl (y_eql rfl rfl)) ?_
 refine jn_as (u := .bool true) (congrArg Value.bool (decide_eq_true rfl)) ?_
 refine jn_y [22, 24] rfl rfl (fun w1 hw1 => And.intro rfl (y_pick_true rfl rfl)) ?_
 refine jn_y [25] rfl rfl (fun w1 hw1 => And.intro rfl (y_move rfl)) ?_
 refine jn_y [26] rfl rfl (fun w1 hw1 => And.intro rfl (y_loadAgg_old rfl rfl (hB.keep hw1) (by simp))) ?_
 refine jn_call [26, 27] rfl rfl (fun w1 hw1 => And.intro rfl ⟨_, _, goes_func rfl, cq (bkid_any fbB w1 (by decide) (txs_none w1) no_tx no_tx ⟨by decide, by decide⟩) (congrArg Value.string fbID)⟩) ?_
 refine jn_y [26] rfl rfl (fun w1 hw1 => And.intro rfl (y_move rfl)) ?_
 refine jn_m [26, 29] rfl rfl (fun w1 hw1 => And.intro rfl (m_buildSlice (by decide) (Built.cell rfl rfl rfl (by repeat constructor) (Built.cell rfl rfl rfl (by repeat constructor) (Built.cell rfl rfl rfl (by repeat constructor) Built.nil))))) ?_
 refine jn_call [26, 30] rfl rfl (fun w1 hw1 b72 h72 => And.intro rfl ⟨_, _, goes_func rfl, tag_any strBlock (some ⟨b72, 0, none⟩) 3 [fbN, fbH, ⟨#[]⟩] w1 (by decide) (by simp) (all3 (by decide) (by decide) (by decide)) (Strs.of_row (h72 _ mem0))⟩) ?_
 refine jn_y [26, 28, 31] rfl rfl (fun w1 hw1 => And.intro rfl (y_seql rfl rfl)) ?_
 refine jn_as (u := .bool true) (congrArg (fun b => Value.bool b) (decide_eq_true (rfl))) ?_
 refine jn_y [26, 32] rfl rfl (fun w1 hw1 => And.intro rfl (y_pick_true rfl rfl)) ?_
 refine jn_y [33] rfl rfl (fun w1 hw1 => And.intro rfl (y_move rfl)) ?_
 refine jn_y [34] rfl rfl (fun w1 hw1 => And.intro rfl (y_loadAgg_old rfl rfl (hB.keep hw1) (by simp))) ?_
 refine jn_call [34, 35] rfl rfl (fun w1 hw1 => And.intro rfl ⟨_, _, goes_func rfl, cq (bkright_any fbB w1 (by decide) (txs_none w1) no_tx) (congrArg Value.bool fbR)⟩) ?_
 refine jn_y [34, 36] rfl rfl (fun w1 hw1 => And.intro rfl (y_pick_true rfl rfl)) ?_
 refine jn_y [37] rfl rfl (fun w1 hw1 => And.intro rfl (y_move rfl)) ?_
 refine jn_y [38] rfl rfl (fun w1 hw1 => And.intro rfl (y_build Built.nil)) ?_
 refine jn_call [38, 39] rfl rfl (fun w1 hw1 => And.intro rfl ⟨_, _, goes_func rfl, cq (bkright_any bq0 w1 (by decide) (txs_none w1) no_tx) (congrArg Value.bool fbR0)⟩) ?_
 refine jn_y [38, 40] rfl rfl (fun w1 hw1 => And.intro rfl (y_not rfl)) ?_
 refine jn_y [38, 41] rfl rfl (fun w1 hw1 => And.intro rfl (y_pick_true rfl rfl)) ?_
 refine jn_y [42] rfl rfl (fun w1 hw1 => And.intro rfl (y_move rfl)) ?_
 refine jn_y [43] rfl rfl (fun w1 hw1 => And.intro rfl (y_build Built.nil)) ?_
 refine jn_call [43, 44] rfl rfl (fun w1 hw1 => And.intro rfl ⟨_, _, goes_func rfl, cq (bkid_any bq0 w1 (by decide) (txs_none w1) no_tx no_tx ⟨by decide, by decide⟩) (congrArg Value.string fbID0)⟩) ?_
 refine jn_y [43, 45] rfl rfl (fun w1 hw1 => And.intro rfl (y_seql rfl rfl)) ?_
 refine jn_as (u := .bool true) (congrArg (fun b => Value.bool b) (decide_eq_true (rfl))) ?_
 refine jn_y [43, 46] rfl rfl (fun w1 hw1 => And.intro rfl (y_pick_true rfl rfl)) ?_
 refine jn_y [47] rfl rfl (fun w1 hw1 => And.intro rfl (y_move rfl)) ?_
 refine jn_y [48] rfl rfl (fun w1 hw1 => And.intro rfl (y_move rfl)) ?_
 refine jn_call [48, 49] rfl rfl (fun w1 hw1 => And.intro rfl ⟨_, _, goes_func rfl, cq (bfirst_any (some ⟨b39, 0, none⟩) [fbO] 1 w1 (by decide) (hO.keep hw1) fbO_fit fbO_key) (congrArg Value.string fbFst)⟩) ?_
 refine jn_y [48] rfl rfl (fun w1 hw1 => And.intro rfl (y_move rfl)) ?_
 refine jn_y [48, 51] rfl rfl (fun w1 hw1 => And.intro rfl (y_concat rfl rfl (by first | omega | decide +kernel | (simp only [ByteArray.size_append]; have := fbE_size; have := z16; have h120 : (⟨#[120]⟩ : ByteArray).size = 1 := rfl; omega)))) ?_
 refine jn_as (u := .string fbF) (congrArg Value.string fbF_eq) ?_
 refine jn_m [48, 52] rfl rfl (fun w1 hw1 => And.intro rfl (m_buildSlice (by decide) (Built.cell rfl rfl rfl (by repeat constructor) Built.nil))) ?_
 refine jn_call [48, 53] rfl rfl (fun w1 hw1 b95 h95 => And.intro rfl ⟨_, _, goes_func rfl, tag_any strFirst (some ⟨b95, 0, none⟩) 1 [fbF] w1 (by decide) (by simp) (all1 (by decide +kernel)) (Strs.of_row (h95 _ mem0))⟩) ?_
 refine jn_y [48, 50, 54] rfl rfl (fun w1 hw1 => And.intro rfl (y_seql rfl rfl)) ?_
 refine jn_as (u := .bool true) (congrArg (fun b => Value.bool b) (decide_eq_true (rfl))) ?_
 refine jn_y [48, 55] rfl rfl (fun w1 hw1 => And.intro rfl (y_pick_true rfl rfl)) ?_
 refine jn_y [56] rfl rfl (fun w1 hw1 => And.intro rfl (y_move rfl)) ?_
 refine jn_y [57] rfl rfl (fun w1 hw1 => And.intro rfl (y_loadAgg_old rfl rfl (hP.keep hw1) (by simp))) ?_
 refine jn_y [57] rfl rfl (fun w1 hw1 => And.intro rfl (y_move rfl)) ?_
 refine jn_call [57, 59] rfl rfl (fun w1 hw1 => And.intro rfl ⟨_, _, goes_func rfl, bfirst_any (some ⟨b39, 0, none⟩) [fbO] 1 w1 (by decide) (hO.keep hw1) fbO_fit fbO_key⟩) ?_
 refine jn_y [57, 60] rfl rfl (fun w1 hw1 => And.intro rfl (y_build (Built.cell rfl rfl rfl (by repeat constructor) (Built.cell rfl rfl rfl (by repeat constructor) Built.nil)))) ?_
 refine jn_y [57, 58, 61] rfl rfl (fun w1 hw1 => And.intro rfl (y_eql_agg rfl rfl (by kernel_rfl) (fun w => eq_pnt 9998 ⟨bkFirst [fbO], 3⟩ ⟨bkFirst [fbO], 3⟩ w))) ?_
 refine jn_as (u := .bool true) (congrArg Value.bool (decide_eq_true rfl)) ?_
 refine jn_y [57, 62] rfl rfl (fun w1 hw1 => And.intro rfl (y_pick_true rfl rfl)) ?_
 refine jn_y [63] rfl rfl (fun w1 hw1 => And.intro rfl (y_assign rfl)) ?_
 refine jn_nil [64] (by decide) (fun w1 hw1 => jq_at hw1 ?_)
 refine jq_then ?_
 refine jc_ret ?_
 refine jq_ret1 rfl rfl ?_
 exact fun _ hw => ⟨rfl, (hbx.ch.then (hby.ch.then hw.ch))⟩

end Go.Proofs.Ytomhcibbalhgkaa
