/- The walks of package lottery, part three: Gone, Make, Put, Take. Written by program (walk.py) out of a table of contracts and invariants. -/
import Derived.Test.YtghomncegjamfaaGreatLu
namespace Go.Proofs.YtghomncegjamfaaGreat
open Go.RowKit
set_option maxRecDepth 100000
set_option maxHeartbeats 2000000
set_option linter.unusedVariables false
set_option linter.unusedSimpArgs false
attribute [local irreducible] Yields Makes Writes
theorem cloneOf_pos (ad : Option Addr) (c : Nat) (l : List Of) (w : World) (hl : l.length ≤ 1000000) (h0 : 0 < l.length) (hE : ElAt w ad 9 (l.map Of.c)) :
  Calls Tryz.prog 27 #[.slice ad l.length c] w fun e w' => ∃ p : Nat × Nat, e = .returned (.slice (some ⟨p.1, 0, none⟩) l.length p.2) ∧ Fresh w w' (.row (some ⟨p.1, 0, none⟩) l.length p.2 32 9 (l.flatMap Of.c)) :=
  (cloneOf_any ad c l w hl hE).mono fun e w' ⟨pr, he, hf⟩ => by
    obtain ⟨a, k⟩ := pr
    obtain ⟨b, rfl⟩ := row_some hf.2.1 h0
    exact ⟨(b, k), he, hf⟩
theorem ElO.keepS {w w1 : World} {S T : List Nat} {ad : Option Addr} {sz : Nat} {els : List (List Value)} {H : List HA} (h : ElO w T ad sz els) (hw : Hp w S H w1) (hs : ∀ x ∈ S, x ∈ T) : ElO w1 T ad sz els := fun i cs hc =>
  let ⟨b, o, e, hb, h1⟩ := h i cs hc; ⟨b, o, e, hb, fun j u hj => hw.cell (h1 j u hj) fun hx => hb (hs b hx)⟩
theorem fairV_fits (raw m : Int) (h : fits .u64 raw) : fits .u64 (fairV raw m) := by
  simp only [fits] at *
  unfold fairV
  split
  · split
    · omega
    · have h1 := Int.emod_lt_of_pos raw (show 0 < m by omega)
      have h2 := Int.emod_nonneg raw (show m ≠ 0 by omega)
      omega
  · omega
theorem flat_upd {x : Of} {v : List Value} : ∀ (l : List Of) (n j : Nat) (u : Value) (h : n < l.length), j < 9 → Of.c x = (Of.c l[n]).set j u → (l.flatMap Of.c).set (n * 9 + j) u = (l.set n x).flatMap Of.c
  | [], n, j, u, h, _, _ => by cases h
  | y :: l, 0, j, u, h, hj, hx => by
    rw [List.set_cons_zero, List.flatMap_cons, List.flatMap_cons, hx, Nat.zero_mul, Nat.zero_add, List.set_append_left _ _ (by exact hj)]; rfl
  | y :: l, n + 1, j, u, h, hj, hx => by
    rw [List.set_cons_succ, List.flatMap_cons, List.flatMap_cons, ← flat_upd (v := v) l n j u (Nat.lt_of_succ_lt_succ h) hj hx, show (n + 1) * 9 + j = 9 + (n * 9 + j) by omega, List.set_append_right _ _ (by show 9 ≤ _; omega), show 9 + (n * 9 + j) - (Of.c y).length = n * 9 + j by show 9 + (n * 9 + j) - 9 = _; omega]
theorem flat_off {l : List Of} {n : Nat} (h : n < l.length) (hf : l[n].taken = false) : (l.flatMap Of.c).set (n * 9 + 8) (.bool true) = (l.set n { l[n] with taken := true }).flatMap Of.c := flat_upd (v := []) l n 8 _ h (by decide) rfl

theorem lgone_any (b : Nat) (ch cl : ByteArray) (nx : Int) (ad : Option Addr) (l : List Of) (c : Nat) (w : World) (hl : l.length ≤ 1000) (hA : HA.ok w (.cells b [.string ch, .string cl, .int .u64 nx, .slice ad l.length c])) (hE1 : ElO w [b] ad 9 (l.map Of.c)) (s : Int) :
  Calls Tryz.prog 8 #[.pointer (some ⟨b, 0, none⟩), .int .u64 s] w fun e w' => ∃ pr : Option Addr × Nat, e = .returned (.int .i64 (goneE ⟨ch, cl, nx, l⟩ s)) ∧ Upd w w' (.cells b [.string ch, .string cl, .int .u64 nx, .slice ad l.length c]) (Bk.h (goneB ⟨ch, cl, nx, l⟩ s) b pr.1 pr.2) ∧ RowT w w' (ad, c) pr l ((goneB ⟨ch, cl, nx, l⟩ s)).l := by
 have hr := find_range l s
 refine calls_of (n := 23) (E := [(0, .pointer (some ⟨b, 0, none⟩)), (1, .int .u64 s)]) (W := Hp w [b] [.cells b [.string ch, .string cl, .int .u64 nx, .slice ad l.length c]]) Tryz.func8 rfl rfl (Nat.le_of_ble_eq_true rfl) rfl (Hp.start rfl hA) ?_; refine jsr ?_; refine jz ?_; refine jnt ?_; refine jsr ?_; (iterate 2 refine jz ?_); refine jpc (goes_func rfl) (fun w1 hw1 => lfind_any b ad l c w1 hl (CellAt.of_cells (hw1.get (A := .cells b [.string ch, .string cl, .int .u64 nx, .slice ad l.length c]) mem0) rfl) (hE1.keep hw1).el (s)) ?_; refine jz ?_; refine jnt ?_; refine jc_seq ?_; refine jsr ?_; refine jz ?_; refine jy (y_lss rfl rfl) ?_; refine jl_prop (fun h10 => ?_) (fun h10 => ?_)
 ·first | (exfalso; omega) | (
   refine jnt ?_; refine jc_true rfl ?_; refine jsr ?_; refine jz ?_; refine jnt ?_; refine jc_ret ?_; refine jq_then_ret ?_; refine jq_ret1 rfl rfl ?_
   exact fun w' hw => by
    have e : goneB ⟨ch, cl, nx, l⟩ s = ⟨ch, cl, nx, l⟩ ∧ goneE ⟨ch, cl, nx, l⟩ s = 6 := ⟨if_pos (by show findL l s < 0; omega), if_pos (by show findL l s < 0; omega)⟩
    rw [e.1, e.2]
    exact ⟨(ad, c), rfl, (hw).updd rfl, .inl ⟨rfl, rfl⟩⟩
   )
 ·first | (exfalso; omega) | (
   refine jnt ?_; refine jc_false rfl ?_; refine jc_skip ?_; refine jq_then ?_; refine jc_seq ?_
   obtain ⟨i, hi⟩ : ∃ i : Nat, findL l s = (i : Int) := ⟨(findL l s).toNat, by omega⟩
   refine jc_region ?_; (iterate 5 refine jz ?_); refine jl_fcall rfl (by decide) rfl (goes_func rfl) (fun w1 hw1 => cloneOf_pos ad c l w1 (by omega) (by omega) (hE1.keep hw1).el) (fun ⟨b16, c16⟩ => ?_); (iterate 2 refine jz ?_); refine jy (yaf rfl rfl) ?_; refine juc (goes_func rfl) (fun w1 hw1 => delL_any b16 l i _ c16 w1 hi (by omega) hl hw1) ?_; (iterate 2 refine jz ?_); refine jst ?_; refine jnt ?_; refine jsr ?_; refine jz ?_; refine jnt ?_; refine jc_ret ?_; refine jq_ret1 rfl rfl ?_
   exact fun w' hw => by
    have e : goneB ⟨ch, cl, nx, l⟩ s = ⟨ch, cl, nx, l.eraseIdx i⟩ := by
     unfold goneB; rw [if_neg (by show ¬ findL l s < 0; omega)]; show Bk.mk _ _ _ (l.eraseIdx (findL l s).toNat) = _; rw [hi]; rfl
    have e1 : goneE ⟨ch, cl, nx, l⟩ s = 0 := if_neg (by show ¬ findL l s < 0; omega)
    have e2 : (l.eraseIdx i).length = l.length - 1 := List.length_eraseIdx_of_lt (by omega)
    rw [e, e1]
    refine ⟨(some ⟨b16, 0, none⟩, c16), rfl, ?_, RowT.new hw e2.symm mem0 rfl⟩
    show Upd w w' _ (.cells b [.string ch, .string cl, .int .u64 nx, .slice (some ⟨b16, 0, none⟩) (l.eraseIdx i).length c16])
    rw [e2]
    exact (hw.part (.cons del1 .nil)).updd rfl
   )

theorem lmay_any (b : Nat) (ch cl : ByteArray) (nx : Int) (l : List Of) (o : Of) (w : World) (hf : o.Fit) (hsz : o.salt.size ≤ 1000000) (h : CellAt w b 0 (.string ch)) :
  Calls Tryz.prog 62 #[.pointer (some ⟨b, 0, none⟩), .agg (Of.c o).toArray] w fun e w' => e = .returned (.bool (mayO ⟨ch, cl, nx, l⟩ o)) ∧ Ch [] w w' := by
 have hf1 := hf.face
 have hf2 := hf.wins
 have hf3 := hf.many
 have hf4 := hf.drawn
 refine calls_of (n := 74) (E := [(0, .pointer (some ⟨b, 0, none⟩)), (1, .agg (Of.c o).toArray)]) (W := Hp w [] []) Tryz.func62 rfl rfl (Nat.le_of_ble_eq_true rfl) rfl (Hp.nil _ _) ?_; refine jsr ?_; refine jl_m rfl (by decide) rfl (m_box rfl rfl) (fun b3 => ?_); refine jz ?_; refine jnt ?_; refine jsr ?_; (iterate 6 refine jz ?_); refine jpc (goes_func rfl) (fun w1 hw1 => nominal_any _ _ _ w1 hf1 hf2 hf3) ?_; (iterate 5 refine jz ?_); refine jnt ?_; refine jsr ?_; (iterate 6 refine jz ?_); refine jpc (goes_func rfl) (fun w1 hw1 => wins_any _ _ _ _ w1 hf4 ⟨by decide, by decide⟩ hf2 hf3) ?_; (iterate 5 refine jz ?_); refine jnt ?_; refine jc_seq ?_; refine jc_draw (by kernel_rfl) (fun _ h => h.drew) ?_; (iterate 5 refine juz ?_); refine juy (y_load_old rfl h List.not_mem_nil) ?_; refine juy (y_seql rfl rfl) ?_; refine ju_prop (fun h35 => ?_) (fun h35 => ?_)
 ·skip
  (iterate 3 refine juz ?_); refine juy (y_geq rfl rfl) ?_; refine ju_prop (fun h39 => ?_) (fun h39 => ?_)
  ·first | (exfalso; omega) | (
    refine juy (y_pick_true rfl rfl) ?_; (iterate 3 refine juz ?_); refine juy (y_leq rfl rfl) ?_; refine ju_prop (fun h44 => ?_) (fun h44 => ?_)
    ·first | (exfalso; omega) | (
      refine juy (y_pick_true rfl rfl) ?_; (iterate 3 refine juz ?_); refine juy (y_len_str rfl) ?_; refine juy (y_leq rfl rfl) ?_; refine ju_prop (fun h50 => ?_) (fun h50 => ?_)
      ·first | (exfalso; omega) | (
        refine juy (y_pick_true rfl rfl) ?_; (iterate 3 refine juz ?_); refine juy (y_gtr rfl rfl) ?_; refine ju_prop (fun h55 => ?_) (fun h55 => ?_)
        ·first | (exfalso; omega) | (
          refine juy (y_pick_true rfl rfl) ?_; (iterate 2 refine juz ?_); refine juy (y_eql rfl rfl) ?_; refine ju_prop (fun h59 => ?_) (fun h59 => ?_)
          ·first | (exfalso; omega) | (
            refine juy (y_pick_true rfl rfl) ?_; (iterate 2 refine juz ?_); refine juy (y_eql rfl rfl) ?_; refine ju_prop (fun h63 => ?_) (fun h63 => ?_)
            ·first | (exfalso; omega) | (refine juy (y_pick_true rfl rfl) ?_; (iterate 7 refine juz ?_); refine ju_call rfl (by decide) rfl (goes_func rfl) (fun w1 hw1 => pcall hw1 (opens_any _ _ _ w1 hsz hf4)) ?_; refine juy (y_pick_true rfl rfl) ?_; refine juz ?_; refine ju_nil ?_; refine jq_then ?_; refine jc_ret ?_; refine jq_ret1 rfl rfl ?_; exact fun _ hw => ⟨congrArg (fun b => Ending.returned (Value.bool b)) (by have hsz2 : o.salt.size ≤ 32 ↔ (o.salt.size : Int) ≤ 32 := (by omega); unfold mayO; simp only [hsz2]; clear hsz2; simp_all <;> (intros; omega)), hw.ch⟩)
            ·first | (exfalso; omega) | (refine juy (y_pick_true rfl rfl) ?_; refine juz ?_; (iterate 7 refine jus ?_); refine juy (y_pick_false rfl rfl) ?_; refine juz ?_; refine ju_nil ?_; refine jq_then ?_; refine jc_ret ?_; refine jq_ret1 rfl rfl ?_; exact fun _ hw => ⟨congrArg (fun b => Ending.returned (Value.bool b)) (by have hsz2 : o.salt.size ≤ 32 ↔ (o.salt.size : Int) ≤ 32 := (by omega); unfold mayO; simp only [hsz2]; clear hsz2; simp_all <;> (intros; omega)), hw.ch⟩)
            )
          ·first | (exfalso; omega) | (refine juy (y_pick_true rfl rfl) ?_; refine juz ?_; (iterate 2 refine jus ?_); refine juy (y_pick_false rfl rfl) ?_; refine juz ?_; (iterate 7 refine jus ?_); refine juy (y_pick_false rfl rfl) ?_; refine juz ?_; refine ju_nil ?_; refine jq_then ?_; refine jc_ret ?_; refine jq_ret1 rfl rfl ?_; exact fun _ hw => ⟨congrArg (fun b => Ending.returned (Value.bool b)) (by have hsz2 : o.salt.size ≤ 32 ↔ (o.salt.size : Int) ≤ 32 := (by omega); unfold mayO; simp only [hsz2]; clear hsz2; simp_all <;> (intros; omega)), hw.ch⟩)
          )
        ·first | (exfalso; omega) | (refine juy (y_pick_true rfl rfl) ?_; refine juz ?_; (iterate 2 refine jus ?_); refine juy (y_pick_false rfl rfl) ?_; refine juz ?_; (iterate 2 refine jus ?_); refine juy (y_pick_false rfl rfl) ?_; refine juz ?_; (iterate 7 refine jus ?_); refine juy (y_pick_false rfl rfl) ?_; refine juz ?_; refine ju_nil ?_; refine jq_then ?_; refine jc_ret ?_; refine jq_ret1 rfl rfl ?_; exact fun _ hw => ⟨congrArg (fun b => Ending.returned (Value.bool b)) (by have hsz2 : o.salt.size ≤ 32 ↔ (o.salt.size : Int) ≤ 32 := (by omega); unfold mayO; simp only [hsz2]; clear hsz2; simp_all <;> (intros; omega)), hw.ch⟩)
        )
      ·first | (exfalso; omega) | (refine juy (y_pick_true rfl rfl) ?_; refine juz ?_; (iterate 3 refine jus ?_); refine juy (y_pick_false rfl rfl) ?_; refine juz ?_; (iterate 2 refine jus ?_); refine juy (y_pick_false rfl rfl) ?_; refine juz ?_; (iterate 2 refine jus ?_); refine juy (y_pick_false rfl rfl) ?_; refine juz ?_; (iterate 7 refine jus ?_); refine juy (y_pick_false rfl rfl) ?_; refine juz ?_; refine ju_nil ?_; refine jq_then ?_; refine jc_ret ?_; refine jq_ret1 rfl rfl ?_; exact fun _ hw => ⟨congrArg (fun b => Ending.returned (Value.bool b)) (by have hsz2 : o.salt.size ≤ 32 ↔ (o.salt.size : Int) ≤ 32 := (by omega); unfold mayO; simp only [hsz2]; clear hsz2; simp_all <;> (intros; omega)), hw.ch⟩)
      )
    ·first | (exfalso; omega) | (refine juy (y_pick_true rfl rfl) ?_; refine juz ?_; (iterate 4 refine jus ?_); refine juy (y_pick_false rfl rfl) ?_; refine juz ?_; (iterate 3 refine jus ?_); refine juy (y_pick_false rfl rfl) ?_; refine juz ?_; (iterate 2 refine jus ?_); refine juy (y_pick_false rfl rfl) ?_; refine juz ?_; (iterate 2 refine jus ?_); refine juy (y_pick_false rfl rfl) ?_; refine juz ?_; (iterate 7 refine jus ?_); refine juy (y_pick_false rfl rfl) ?_; refine juz ?_; refine ju_nil ?_; refine jq_then ?_; refine jc_ret ?_; refine jq_ret1 rfl rfl ?_; exact fun _ hw => ⟨congrArg (fun b => Ending.returned (Value.bool b)) (by have hsz2 : o.salt.size ≤ 32 ↔ (o.salt.size : Int) ≤ 32 := (by omega); unfold mayO; simp only [hsz2]; clear hsz2; simp_all <;> (intros; omega)), hw.ch⟩)
    )
  ·first | (exfalso; omega) | (refine juy (y_pick_true rfl rfl) ?_; refine juz ?_; (iterate 3 refine jus ?_); refine juy (y_pick_false rfl rfl) ?_; refine juz ?_; (iterate 4 refine jus ?_); refine juy (y_pick_false rfl rfl) ?_; refine juz ?_; (iterate 3 refine jus ?_); refine juy (y_pick_false rfl rfl) ?_; refine juz ?_; (iterate 2 refine jus ?_); refine juy (y_pick_false rfl rfl) ?_; refine juz ?_; (iterate 2 refine jus ?_); refine juy (y_pick_false rfl rfl) ?_; refine juz ?_; (iterate 7 refine jus ?_); refine juy (y_pick_false rfl rfl) ?_; refine juz ?_; refine ju_nil ?_; refine jq_then ?_; refine jc_ret ?_; refine jq_ret1 rfl rfl ?_; exact fun _ hw => ⟨congrArg (fun b => Ending.returned (Value.bool b)) (by have hsz2 : o.salt.size ≤ 32 ↔ (o.salt.size : Int) ≤ 32 := (by omega); unfold mayO; simp only [hsz2]; clear hsz2; simp_all <;> (intros; omega)), hw.ch⟩)
 ·skip
  refine juz ?_; (iterate 3 refine jus ?_); refine juy (y_pick_false rfl rfl) ?_; refine juz ?_; (iterate 3 refine jus ?_); refine juy (y_pick_false rfl rfl) ?_; refine juz ?_; (iterate 4 refine jus ?_); refine juy (y_pick_false rfl rfl) ?_; refine juz ?_; (iterate 3 refine jus ?_); refine juy (y_pick_false rfl rfl) ?_; refine juz ?_; (iterate 2 refine jus ?_); refine juy (y_pick_false rfl rfl) ?_; refine juz ?_; (iterate 2 refine jus ?_); refine juy (y_pick_false rfl rfl) ?_; refine juz ?_; (iterate 7 refine jus ?_); refine juy (y_pick_false rfl rfl) ?_; refine juz ?_; refine ju_nil ?_; refine jq_then ?_; refine jc_ret ?_; refine jq_ret1 rfl rfl ?_; exact fun _ hw => ⟨congrArg (fun b => Ending.returned (Value.bool b)) (by have hsz2 : o.salt.size ≤ 32 ↔ (o.salt.size : Int) ≤ 32 := (by omega); unfold mayO; simp only [hsz2]; clear hsz2; simp_all <;> (intros; omega)), hw.ch⟩

theorem lput_any (b : Nat) (ch cl : ByteArray) (nx : Int) (ad : Option Addr) (l : List Of) (c : Nat) (w : World) (hl : l.length ≤ 1000) (hA : HA.ok w (.cells b [.string ch, .string cl, .int .u64 nx, .slice ad l.length c])) (hE1 : ElO w [b] ad 9 (l.map Of.c)) (o : Of) (hf : o.Fit) (hsz : o.salt.size ≤ 1000000) (hlf : ∀ x ∈ l, fits .u64 x.face) (hnx : fits .u64 nx) :
  Calls Tryz.prog 36 #[.pointer (some ⟨b, 0, none⟩), .agg (Of.c o).toArray] w fun e w' => ∃ pr : Option Addr × Nat, e = .returned (.int .i64 (putE ⟨ch, cl, nx, l⟩ o)) ∧ Upd w w' (.cells b [.string ch, .string cl, .int .u64 nx, .slice ad l.length c]) (Bk.h (putB ⟨ch, cl, nx, l⟩ o) b pr.1 pr.2) ∧ RowT w w' (ad, c) pr l ((putB ⟨ch, cl, nx, l⟩ o)).l := by
 have hr := find_range l o.serial
 have hf5 := hf.face
 have hf6 := hf.serial
 refine calls_of (n := 50) (E := [(0, .pointer (some ⟨b, 0, none⟩)), (1, .agg (Of.c o).toArray)]) (W := Hp w [b] [.cells b [.string ch, .string cl, .int .u64 nx, .slice ad l.length c]]) Tryz.func36 rfl rfl (Nat.le_of_ble_eq_true rfl) rfl (Hp.start rfl hA) ?_; refine jsr ?_; refine jl_m rfl (by decide) rfl (m_box rfl rfl) (fun b3 => ?_); refine jz ?_; refine jnt ?_; refine jc_seq ?_; refine jc_block ?_; refine jsr ?_; (iterate 2 refine jz ?_); refine jpc (goes_func rfl) (fun w1 hw1 => lmay_any b ch cl nx l o w1 hf hsz (CellAt.of_cells (hw1.get (A := .cells b [.string ch, .string cl, .int .u64 nx, .slice ad l.length c]) mem1) rfl)) ?_; refine jl_bool (fun h10 => ?_) (fun h10 => ?_)
 ·skip
  (iterate 2 refine jz ?_); refine jnt ?_; refine jc_false rfl ?_; refine jsr ?_; (iterate 3 refine jz ?_); refine jpc (goes_func rfl) (fun w1 hw1 => lfind_any b ad l c w1 hl (CellAt.of_cells (hw1.get (A := .cells b [.string ch, .string cl, .int .u64 nx, .slice ad l.length c]) mem1) rfl) (hE1.keep hw1).el (o.serial)) ?_; refine jy (y_geq rfl rfl) ?_; refine jl_prop (fun h17 => ?_) (fun h17 => ?_)
  ·first | (exfalso; omega) | (
    refine jz ?_; refine jnt ?_; refine jc_true rfl ?_; refine jsr ?_; refine jz ?_; refine jnt ?_; refine jc_ret ?_; refine jq_block_ret ?_; refine jq_then_ret ?_; refine jq_ret1 rfl rfl ?_
    exact fun w' hw => by
     have e : putB ⟨ch, cl, nx, l⟩ o = ⟨ch, cl, nx, l⟩ ∧ putE ⟨ch, cl, nx, l⟩ o = (7 : Int) := by
      have e0 : putE ⟨ch, cl, nx, l⟩ o = (7 : Int) := by unfold putE; rw [if_pos (show mayO ⟨ch, cl, nx, l⟩ o = true by assumption)]; show (if 0 ≤ findL l o.serial then (7 : Int) else _) = 7; rw [if_pos (by omega)]
      have hn : ¬ (7 : Int) = 0 := by first | decide | assumption
      exact ⟨by unfold putB; rw [if_neg (by rw [e0]; exact hn)], e0⟩
     rw [e.1, e.2]
     exact ⟨(ad, c), rfl, (hw.part (F := [.cells b [.string ch, .string cl, .int .u64 nx, .slice ad l.length c]]) (.cons del1 .nil)).updd rfl, .inl ⟨rfl, rfl⟩⟩
    )
  ·first | (exfalso; omega) | (
    refine jz ?_; refine jnt ?_; refine jc_false rfl ?_; refine jc_skip ?_; refine jq_block ?_; refine jq_then ?_; refine jsr ?_; (iterate 3 refine jz ?_); refine jnt ?_; refine jc_seq ?_; refine jsr ?_; (iterate 2 refine jz ?_); refine jl_bool (fun h21 => ?_) (fun h21 => ?_)
    ·skip
     refine jnt ?_; refine jc_true rfl ?_; refine jc_region ?_; refine jz ?_; refine jnt ?_; refine jc_seq ?_; refine jsr ?_; (iterate 2 refine jz ?_); refine jpc (goes_func rfl) (fun w1 hw1 => lroom_any b ad l c w1 hl (CellAt.of_cells (hw1.get (A := .cells b [.string ch, .string cl, .int .u64 nx, .slice ad l.length c]) mem1) rfl) (hE1.keep hw1).el hlf _ (by first | exact hf5 | exact ⟨by decide, by decide⟩)) ?_; refine jz ?_; refine jnt ?_; refine jsr ?_; refine jz ?_; refine jy (y_neq rfl rfl) ?_; refine jl_prop (fun h26 => ?_) (fun h26 => ?_)
     ·first | (exfalso; omega) | (
       refine jnt ?_; refine jc_true rfl ?_; refine jsr ?_; (iterate 2 refine jz ?_); refine jnt ?_; refine jc_ret ?_; refine jq_then_ret ?_; refine jq_ret1 rfl rfl ?_
       first
       | exact fun w' hw => by
          have e : putB ⟨ch, cl, nx, l⟩ o = ⟨ch, cl, nx, l⟩ ∧ putE ⟨ch, cl, nx, l⟩ o = roomE l 0 := by
           have e0 : putE ⟨ch, cl, nx, l⟩ o = roomE l 0 := by unfold putE; rw [if_pos (show mayO ⟨ch, cl, nx, l⟩ o = true by assumption)]; show (if 0 ≤ findL l o.serial then (7 : Int) else roomE l (if o.taken = true then 0 else o.face)) = _; rw [if_neg (by omega)]; first | rw [if_pos (show o.taken = true by assumption)] | rw [if_neg (show ¬ o.taken = true by rw [show o.taken = false by assumption]; decide)]
           have hn : ¬ roomE l 0 = 0 := by first | decide | assumption
           exact ⟨by unfold putB; rw [if_neg (by rw [e0]; exact hn)], e0⟩
          rw [e.1, e.2]
          exact ⟨(ad, c), rfl, (hw.part (F := [.cells b [.string ch, .string cl, .int .u64 nx, .slice ad l.length c]]) (.cons del1 .nil)).updd rfl, .inl ⟨rfl, rfl⟩⟩
       | exact fun w' hw => by
          have e : putB ⟨ch, cl, nx, l⟩ o = ⟨ch, cl, nx, l⟩ ∧ putE ⟨ch, cl, nx, l⟩ o = roomE l o.face := by
           have e0 : putE ⟨ch, cl, nx, l⟩ o = roomE l o.face := by unfold putE; rw [if_pos (show mayO ⟨ch, cl, nx, l⟩ o = true by assumption)]; show (if 0 ≤ findL l o.serial then (7 : Int) else roomE l (if o.taken = true then 0 else o.face)) = _; rw [if_neg (by omega)]; first | rw [if_pos (show o.taken = true by assumption)] | rw [if_neg (show ¬ o.taken = true by rw [show o.taken = false by assumption]; decide)]
           have hn : ¬ roomE l o.face = 0 := by first | decide | assumption
           exact ⟨by unfold putB; rw [if_neg (by rw [e0]; exact hn)], e0⟩
          rw [e.1, e.2]
          exact ⟨(ad, c), rfl, (hw.part (F := [.cells b [.string ch, .string cl, .int .u64 nx, .slice ad l.length c]]) (.cons del1 .nil)).updd rfl, .inl ⟨rfl, rfl⟩⟩
       )
     ·first | (exfalso; omega) | (
       refine jnt ?_; refine jc_false rfl ?_; refine jc_skip ?_; refine jq_then ?_; refine jc_seq ?_; refine jc_tree 11 (.step 0 true (.step 1 true (.step 2 true (.step 3 true (.step 4 true (.step 6 true (.fork 5 (.step 7 false (.step 8 false (.step 9 true (.step 10 true .nil)))) 7 (.step 5 false (.step 8 false (.step 9 true (.step 10 true .nil))))))))))) (by kernel_rfl) (fun _ _ _ _ h => h) (fun _ h => h.drew) ?_
       simp only [List.drop_succ_cons, List.drop_zero]
       iterate 2 refine jf_take rfl rfl (by decide) rfl (y_move rfl) ?_
       first | refine jf_take rfl rfl (by decide) rfl (y_nilCheck rfl) ?_ | refine jf_take rfl rfl (by decide) rfl (y_nilCheck_func rfl) ?_
       refine jf_take rfl rfl (by decide) rfl (y_fieldAddr rfl) ?_
       first | refine jf_take rfl rfl (by decide) rfl (y_load rfl (by first | exact mem0 | exact mem1 | exact mem2 | exact mem3 | exact mem4 | exact mem5) rfl) ?_ | refine jf_take rfl rfl (by decide) rfl (y_load_row rfl (by first | exact mem0 | exact mem1 | exact mem2 | exact mem3 | exact mem4 | exact mem5) rfl) ?_ | refine jf_take rfl rfl (by decide) rfl (y_load_old rfl (by assumption) (by simp)) ?_
       first | refine jf_take rfl rfl (by decide) rfl (y_loadAgg rfl (by first | exact mem0 | exact mem1 | exact mem2 | exact mem3 | exact mem4 | exact mem5) (by repeat constructor)) ?_ | refine jf_take rfl rfl (by decide) rfl (y_loadAgg_row rfl (by first | exact mem0 | exact mem1 | exact mem2 | exact mem3 | exact mem4 | exact mem5) rfl (by assumption)) ?_ | refine jf_take rfl rfl (by decide) rfl (y_loadAgg_old rfl rfl (by assumption) (by simp)) ?_
       refine jf_fork ?_ ?_
       ·skip
        refine jf_fcall (by intros; rename_i h; first | exact h | exact h.pop | exact h.pop.pop | exact h.pop.pop.pop | exact h.pop.pop.pop.pop | exact h.pop.pop.pop.pop.pop | exact h.pop.pop.pop.pop.pop.pop | exact h.part .nil) rfl rfl (by decide) rfl (goes_func rfl) (fun w1 hw1 => cloneOf_any ad c l w1 (by omega) (hE1.keep hw1).el) (fun ⟨a29, c29⟩ => ?_); refine jf_m (by intros; rename_i h; first | exact h | exact h.pop | exact h.pop.pop | exact h.pop.pop.pop | exact h.pop.pop.pop.pop | exact h.pop.pop.pop.pop.pop | exact h.pop.pop.pop.pop.pop.pop | exact h.part .nil) rfl rfl (by decide) rfl (m_buildSlice (size := 9) (by decide) (Built.agg rfl rfl rfl (by repeat constructor) Built.nil)) (fun b35 => ?_); refine jf_m2 (by intros; rename_i h; first | exact h | exact h.pop | exact h.pop.pop | exact h.pop.pop.pop | exact h.pop.pop.pop.pop | exact h.pop.pop.pop.pop.pop | exact h.pop.pop.pop.pop.pop.pop | exact h.part .nil) rfl rfl (by decide) rfl (m_append rfl rfl (by first | exact del0 | exact del1 | exact del2 | exact del3 | exact del4) (by first | exact del0 | exact del1 | exact del2 | exact del3 | exact del4) rfl (by omega) (by omega)) (fun a36 c36 => ?_)
        first | refine jf_take rfl rfl (by decide) rfl (y_nilCheck rfl) ?_ | refine jf_take rfl rfl (by decide) rfl (y_nilCheck_func rfl) ?_
        refine jf_take rfl rfl (by decide) rfl (y_fieldAddr rfl) ?_; refine jf_nil ?_; refine jst ?_; refine jnt ?_; refine jc_seq ?_; refine jc_tail 11 (by kernel_rfl) (fun _ h => h.drew) ?_
        simp only [List.take_succ_cons, List.take_zero, List.drop_succ_cons, List.drop_zero]
        (iterate 7 refine jtz ?_); refine jty (y_add_u64 rfl rfl) ?_; refine jty (y_max rfl rfl) ?_; (iterate 2 refine jtz ?_); refine jt_nil ?_; refine jst ?_; refine jnt ?_; refine jsr ?_; refine jz ?_; refine jnt ?_; refine jc_ret ?_; refine jq_ret1 rfl rfl ?_
        exact fun w' hw => by
         have hm := (of_decide_eq_true (show mayO ⟨ch, cl, nx, l⟩ o = true by assumption)).2
         obtain ⟨hm1, hm2, _⟩ := hm
         have e0 : putE ⟨ch, cl, nx, l⟩ o = 0 := by
          unfold putE
          rw [if_pos (show mayO ⟨ch, cl, nx, l⟩ o = true by assumption)]
          show (if 0 ≤ findL l o.serial then (7 : Int) else roomE l (if o.taken = true then 0 else o.face)) = _
          rw [if_neg (by omega)]
          first | rw [if_pos (show o.taken = true by assumption)] | rw [if_neg (show ¬ o.taken = true by rw [show o.taken = false by assumption]; decide)]
          exact Decidable.not_not.1 (by assumption)
         have e : putB ⟨ch, cl, nx, l⟩ o = ⟨ch, cl, max nx (o.serial + 1), l ++ [o]⟩ := if_pos e0
         rw [e, e0]
         have hw2 := hw.cast (H' := [.row a36 (l.length + 1) c36 32 9 ((l ++ [o]).flatMap Of.c), .cells b3 (Of.c o), .cells b [.string ch, .string cl, .int .u64 (max nx (o.serial + 1)), .slice a36 (l.length + 1) c36]]) (by rw [List.flatMap_append, show (o.serial + 1) % 18446744073709551616 = o.serial + 1 by omega] <;> rfl)
         refine ⟨(a36, c36), rfl, ?_, RowT.new hw2 (by rw [List.length_append] <;> rfl) (.tail _ (.head _)) rfl⟩
         show Upd w w' _ (.cells b [.string ch, .string cl, .int .u64 (max nx (o.serial + 1)), .slice a36 (l ++ [o]).length c36])
         rw [List.length_append]
         exact (hw2.part (.cons del2 .nil)).updd rfl
       ·skip
        refine jf_m (by intros; rename_i h; first | exact h | exact h.pop | exact h.pop.pop | exact h.pop.pop.pop | exact h.pop.pop.pop.pop | exact h.pop.pop.pop.pop.pop | exact h.pop.pop.pop.pop.pop.pop | exact h.part .nil) rfl rfl (by decide) rfl (m_buildSlice (size := 9) (by decide) (Built.agg rfl rfl rfl (by repeat constructor) Built.nil)) (fun b35 => ?_); refine jf_fcall (by intros; rename_i h; first | exact h | exact h.pop | exact h.pop.pop | exact h.pop.pop.pop | exact h.pop.pop.pop.pop | exact h.pop.pop.pop.pop.pop | exact h.pop.pop.pop.pop.pop.pop | exact h.part .nil) rfl rfl (by decide) rfl (goes_func rfl) (fun w1 hw1 => cloneOf_any ad c l w1 (by omega) (hE1.keep hw1).el) (fun ⟨a29, c29⟩ => ?_); refine jf_m2 (by intros; rename_i h; first | exact h | exact h.pop | exact h.pop.pop | exact h.pop.pop.pop | exact h.pop.pop.pop.pop | exact h.pop.pop.pop.pop.pop | exact h.pop.pop.pop.pop.pop.pop | exact h.part .nil) rfl rfl (by decide) rfl (m_append rfl rfl (by first | exact del0 | exact del1 | exact del2 | exact del3 | exact del4) (by first | exact del0 | exact del1 | exact del2 | exact del3 | exact del4) rfl (by omega) (by omega)) (fun a36 c36 => ?_)
        first | refine jf_take rfl rfl (by decide) rfl (y_nilCheck rfl) ?_ | refine jf_take rfl rfl (by decide) rfl (y_nilCheck_func rfl) ?_
        refine jf_take rfl rfl (by decide) rfl (y_fieldAddr rfl) ?_; refine jf_nil ?_; refine jst ?_; refine jnt ?_; refine jc_seq ?_; refine jc_tail 11 (by kernel_rfl) (fun _ h => h.drew) ?_
        simp only [List.take_succ_cons, List.take_zero, List.drop_succ_cons, List.drop_zero]
        (iterate 7 refine jtz ?_); refine jty (y_add_u64 rfl rfl) ?_; refine jty (y_max rfl rfl) ?_; (iterate 2 refine jtz ?_); refine jt_nil ?_; refine jst ?_; refine jnt ?_; refine jsr ?_; refine jz ?_; refine jnt ?_; refine jc_ret ?_; refine jq_ret1 rfl rfl ?_
        exact fun w' hw => by
         have hm := (of_decide_eq_true (show mayO ⟨ch, cl, nx, l⟩ o = true by assumption)).2
         obtain ⟨hm1, hm2, _⟩ := hm
         have e0 : putE ⟨ch, cl, nx, l⟩ o = 0 := by
          unfold putE
          rw [if_pos (show mayO ⟨ch, cl, nx, l⟩ o = true by assumption)]
          show (if 0 ≤ findL l o.serial then (7 : Int) else roomE l (if o.taken = true then 0 else o.face)) = _
          rw [if_neg (by omega)]
          first | rw [if_pos (show o.taken = true by assumption)] | rw [if_neg (show ¬ o.taken = true by rw [show o.taken = false by assumption]; decide)]
          exact Decidable.not_not.1 (by assumption)
         have e : putB ⟨ch, cl, nx, l⟩ o = ⟨ch, cl, max nx (o.serial + 1), l ++ [o]⟩ := if_pos e0
         rw [e, e0]
         have hw2 := hw.cast (H' := [.row a36 (l.length + 1) c36 32 9 ((l ++ [o]).flatMap Of.c), .cells b3 (Of.c o), .cells b [.string ch, .string cl, .int .u64 (max nx (o.serial + 1)), .slice a36 (l.length + 1) c36]]) (by rw [List.flatMap_append, show (o.serial + 1) % 18446744073709551616 = o.serial + 1 by omega] <;> rfl)
         refine ⟨(a36, c36), rfl, ?_, RowT.new hw2 (by rw [List.length_append] <;> rfl) (.tail _ (.head _)) rfl⟩
         show Upd w w' _ (.cells b [.string ch, .string cl, .int .u64 (max nx (o.serial + 1)), .slice a36 (l ++ [o]).length c36])
         rw [List.length_append]
         exact (hw2.part (.cons del2 .nil)).updd rfl
       )
    ·skip
     refine jnt ?_; refine jc_false rfl ?_; refine jc_skip ?_; refine jq_then ?_; refine jc_seq ?_; refine jsr ?_; (iterate 2 refine jz ?_); refine jpc (goes_func rfl) (fun w1 hw1 => lroom_any b ad l c w1 hl (CellAt.of_cells (hw1.get (A := .cells b [.string ch, .string cl, .int .u64 nx, .slice ad l.length c]) mem1) rfl) (hE1.keep hw1).el hlf _ (by first | exact hf5 | exact ⟨by decide, by decide⟩)) ?_; refine jz ?_; refine jnt ?_; refine jsr ?_; refine jz ?_; refine jy (y_neq rfl rfl) ?_; refine jl_prop (fun h26 => ?_) (fun h26 => ?_)
     ·first | (exfalso; omega) | (
       refine jnt ?_; refine jc_true rfl ?_; refine jsr ?_; (iterate 2 refine jz ?_); refine jnt ?_; refine jc_ret ?_; refine jq_then_ret ?_; refine jq_ret1 rfl rfl ?_
       first
       | exact fun w' hw => by
          have e : putB ⟨ch, cl, nx, l⟩ o = ⟨ch, cl, nx, l⟩ ∧ putE ⟨ch, cl, nx, l⟩ o = roomE l 0 := by
           have e0 : putE ⟨ch, cl, nx, l⟩ o = roomE l 0 := by unfold putE; rw [if_pos (show mayO ⟨ch, cl, nx, l⟩ o = true by assumption)]; show (if 0 ≤ findL l o.serial then (7 : Int) else roomE l (if o.taken = true then 0 else o.face)) = _; rw [if_neg (by omega)]; first | rw [if_pos (show o.taken = true by assumption)] | rw [if_neg (show ¬ o.taken = true by rw [show o.taken = false by assumption]; decide)]
           have hn : ¬ roomE l 0 = 0 := by first | decide | assumption
           exact ⟨by unfold putB; rw [if_neg (by rw [e0]; exact hn)], e0⟩
          rw [e.1, e.2]
          exact ⟨(ad, c), rfl, (hw.part (F := [.cells b [.string ch, .string cl, .int .u64 nx, .slice ad l.length c]]) (.cons del1 .nil)).updd rfl, .inl ⟨rfl, rfl⟩⟩
       | exact fun w' hw => by
          have e : putB ⟨ch, cl, nx, l⟩ o = ⟨ch, cl, nx, l⟩ ∧ putE ⟨ch, cl, nx, l⟩ o = roomE l o.face := by
           have e0 : putE ⟨ch, cl, nx, l⟩ o = roomE l o.face := by unfold putE; rw [if_pos (show mayO ⟨ch, cl, nx, l⟩ o = true by assumption)]; show (if 0 ≤ findL l o.serial then (7 : Int) else roomE l (if o.taken = true then 0 else o.face)) = _; rw [if_neg (by omega)]; first | rw [if_pos (show o.taken = true by assumption)] | rw [if_neg (show ¬ o.taken = true by rw [show o.taken = false by assumption]; decide)]
           have hn : ¬ roomE l o.face = 0 := by first | decide | assumption
           exact ⟨by unfold putB; rw [if_neg (by rw [e0]; exact hn)], e0⟩
          rw [e.1, e.2]
          exact ⟨(ad, c), rfl, (hw.part (F := [.cells b [.string ch, .string cl, .int .u64 nx, .slice ad l.length c]]) (.cons del1 .nil)).updd rfl, .inl ⟨rfl, rfl⟩⟩
       )
     ·first | (exfalso; omega) | (
       refine jnt ?_; refine jc_false rfl ?_; refine jc_skip ?_; refine jq_then ?_; refine jc_seq ?_; refine jc_tree 11 (.step 0 true (.step 1 true (.step 2 true (.step 3 true (.step 4 true (.step 6 true (.fork 5 (.step 7 false (.step 8 false (.step 9 true (.step 10 true .nil)))) 7 (.step 5 false (.step 8 false (.step 9 true (.step 10 true .nil))))))))))) (by kernel_rfl) (fun _ _ _ _ h => h) (fun _ h => h.drew) ?_
       simp only [List.drop_succ_cons, List.drop_zero]
       iterate 2 refine jf_take rfl rfl (by decide) rfl (y_move rfl) ?_
       first | refine jf_take rfl rfl (by decide) rfl (y_nilCheck rfl) ?_ | refine jf_take rfl rfl (by decide) rfl (y_nilCheck_func rfl) ?_
       refine jf_take rfl rfl (by decide) rfl (y_fieldAddr rfl) ?_
       first | refine jf_take rfl rfl (by decide) rfl (y_load rfl (by first | exact mem0 | exact mem1 | exact mem2 | exact mem3 | exact mem4 | exact mem5) rfl) ?_ | refine jf_take rfl rfl (by decide) rfl (y_load_row rfl (by first | exact mem0 | exact mem1 | exact mem2 | exact mem3 | exact mem4 | exact mem5) rfl) ?_ | refine jf_take rfl rfl (by decide) rfl (y_load_old rfl (by assumption) (by simp)) ?_
       first | refine jf_take rfl rfl (by decide) rfl (y_loadAgg rfl (by first | exact mem0 | exact mem1 | exact mem2 | exact mem3 | exact mem4 | exact mem5) (by repeat constructor)) ?_ | refine jf_take rfl rfl (by decide) rfl (y_loadAgg_row rfl (by first | exact mem0 | exact mem1 | exact mem2 | exact mem3 | exact mem4 | exact mem5) rfl (by assumption)) ?_ | refine jf_take rfl rfl (by decide) rfl (y_loadAgg_old rfl rfl (by assumption) (by simp)) ?_
       refine jf_fork ?_ ?_
       ·skip
        refine jf_fcall (by intros; rename_i h; first | exact h | exact h.pop | exact h.pop.pop | exact h.pop.pop.pop | exact h.pop.pop.pop.pop | exact h.pop.pop.pop.pop.pop | exact h.pop.pop.pop.pop.pop.pop | exact h.part .nil) rfl rfl (by decide) rfl (goes_func rfl) (fun w1 hw1 => cloneOf_any ad c l w1 (by omega) (hE1.keep hw1).el) (fun ⟨a29, c29⟩ => ?_); refine jf_m (by intros; rename_i h; first | exact h | exact h.pop | exact h.pop.pop | exact h.pop.pop.pop | exact h.pop.pop.pop.pop | exact h.pop.pop.pop.pop.pop | exact h.pop.pop.pop.pop.pop.pop | exact h.part .nil) rfl rfl (by decide) rfl (m_buildSlice (size := 9) (by decide) (Built.agg rfl rfl rfl (by repeat constructor) Built.nil)) (fun b35 => ?_); refine jf_m2 (by intros; rename_i h; first | exact h | exact h.pop | exact h.pop.pop | exact h.pop.pop.pop | exact h.pop.pop.pop.pop | exact h.pop.pop.pop.pop.pop | exact h.pop.pop.pop.pop.pop.pop | exact h.part .nil) rfl rfl (by decide) rfl (m_append rfl rfl (by first | exact del0 | exact del1 | exact del2 | exact del3 | exact del4) (by first | exact del0 | exact del1 | exact del2 | exact del3 | exact del4) rfl (by omega) (by omega)) (fun a36 c36 => ?_)
        first | refine jf_take rfl rfl (by decide) rfl (y_nilCheck rfl) ?_ | refine jf_take rfl rfl (by decide) rfl (y_nilCheck_func rfl) ?_
        refine jf_take rfl rfl (by decide) rfl (y_fieldAddr rfl) ?_; refine jf_nil ?_; refine jst ?_; refine jnt ?_; refine jc_seq ?_; refine jc_tail 11 (by kernel_rfl) (fun _ h => h.drew) ?_
        simp only [List.take_succ_cons, List.take_zero, List.drop_succ_cons, List.drop_zero]
        (iterate 7 refine jtz ?_); refine jty (y_add_u64 rfl rfl) ?_; refine jty (y_max rfl rfl) ?_; (iterate 2 refine jtz ?_); refine jt_nil ?_; refine jst ?_; refine jnt ?_; refine jsr ?_; refine jz ?_; refine jnt ?_; refine jc_ret ?_; refine jq_ret1 rfl rfl ?_
        exact fun w' hw => by
         have hm := (of_decide_eq_true (show mayO ⟨ch, cl, nx, l⟩ o = true by assumption)).2
         obtain ⟨hm1, hm2, _⟩ := hm
         have e0 : putE ⟨ch, cl, nx, l⟩ o = 0 := by
          unfold putE
          rw [if_pos (show mayO ⟨ch, cl, nx, l⟩ o = true by assumption)]
          show (if 0 ≤ findL l o.serial then (7 : Int) else roomE l (if o.taken = true then 0 else o.face)) = _
          rw [if_neg (by omega)]
          first | rw [if_pos (show o.taken = true by assumption)] | rw [if_neg (show ¬ o.taken = true by rw [show o.taken = false by assumption]; decide)]
          exact Decidable.not_not.1 (by assumption)
         have e : putB ⟨ch, cl, nx, l⟩ o = ⟨ch, cl, max nx (o.serial + 1), l ++ [o]⟩ := if_pos e0
         rw [e, e0]
         have hw2 := hw.cast (H' := [.row a36 (l.length + 1) c36 32 9 ((l ++ [o]).flatMap Of.c), .cells b3 (Of.c o), .cells b [.string ch, .string cl, .int .u64 (max nx (o.serial + 1)), .slice a36 (l.length + 1) c36]]) (by rw [List.flatMap_append, show (o.serial + 1) % 18446744073709551616 = o.serial + 1 by omega] <;> rfl)
         refine ⟨(a36, c36), rfl, ?_, RowT.new hw2 (by rw [List.length_append] <;> rfl) (.tail _ (.head _)) rfl⟩
         show Upd w w' _ (.cells b [.string ch, .string cl, .int .u64 (max nx (o.serial + 1)), .slice a36 (l ++ [o]).length c36])
         rw [List.length_append]
         exact (hw2.part (.cons del2 .nil)).updd rfl
       ·skip
        refine jf_m (by intros; rename_i h; first | exact h | exact h.pop | exact h.pop.pop | exact h.pop.pop.pop | exact h.pop.pop.pop.pop | exact h.pop.pop.pop.pop.pop | exact h.pop.pop.pop.pop.pop.pop | exact h.part .nil) rfl rfl (by decide) rfl (m_buildSlice (size := 9) (by decide) (Built.agg rfl rfl rfl (by repeat constructor) Built.nil)) (fun b35 => ?_); refine jf_fcall (by intros; rename_i h; first | exact h | exact h.pop | exact h.pop.pop | exact h.pop.pop.pop | exact h.pop.pop.pop.pop | exact h.pop.pop.pop.pop.pop | exact h.pop.pop.pop.pop.pop.pop | exact h.part .nil) rfl rfl (by decide) rfl (goes_func rfl) (fun w1 hw1 => cloneOf_any ad c l w1 (by omega) (hE1.keep hw1).el) (fun ⟨a29, c29⟩ => ?_); refine jf_m2 (by intros; rename_i h; first | exact h | exact h.pop | exact h.pop.pop | exact h.pop.pop.pop | exact h.pop.pop.pop.pop | exact h.pop.pop.pop.pop.pop | exact h.pop.pop.pop.pop.pop.pop | exact h.part .nil) rfl rfl (by decide) rfl (m_append rfl rfl (by first | exact del0 | exact del1 | exact del2 | exact del3 | exact del4) (by first | exact del0 | exact del1 | exact del2 | exact del3 | exact del4) rfl (by omega) (by omega)) (fun a36 c36 => ?_)
        first | refine jf_take rfl rfl (by decide) rfl (y_nilCheck rfl) ?_ | refine jf_take rfl rfl (by decide) rfl (y_nilCheck_func rfl) ?_
        refine jf_take rfl rfl (by decide) rfl (y_fieldAddr rfl) ?_; refine jf_nil ?_; refine jst ?_; refine jnt ?_; refine jc_seq ?_; refine jc_tail 11 (by kernel_rfl) (fun _ h => h.drew) ?_
        simp only [List.take_succ_cons, List.take_zero, List.drop_succ_cons, List.drop_zero]
        (iterate 7 refine jtz ?_); refine jty (y_add_u64 rfl rfl) ?_; refine jty (y_max rfl rfl) ?_; (iterate 2 refine jtz ?_); refine jt_nil ?_; refine jst ?_; refine jnt ?_; refine jsr ?_; refine jz ?_; refine jnt ?_; refine jc_ret ?_; refine jq_ret1 rfl rfl ?_
        exact fun w' hw => by
         have hm := (of_decide_eq_true (show mayO ⟨ch, cl, nx, l⟩ o = true by assumption)).2
         obtain ⟨hm1, hm2, _⟩ := hm
         have e0 : putE ⟨ch, cl, nx, l⟩ o = 0 := by
          unfold putE
          rw [if_pos (show mayO ⟨ch, cl, nx, l⟩ o = true by assumption)]
          show (if 0 ≤ findL l o.serial then (7 : Int) else roomE l (if o.taken = true then 0 else o.face)) = _
          rw [if_neg (by omega)]
          first | rw [if_pos (show o.taken = true by assumption)] | rw [if_neg (show ¬ o.taken = true by rw [show o.taken = false by assumption]; decide)]
          exact Decidable.not_not.1 (by assumption)
         have e : putB ⟨ch, cl, nx, l⟩ o = ⟨ch, cl, max nx (o.serial + 1), l ++ [o]⟩ := if_pos e0
         rw [e, e0]
         have hw2 := hw.cast (H' := [.row a36 (l.length + 1) c36 32 9 ((l ++ [o]).flatMap Of.c), .cells b3 (Of.c o), .cells b [.string ch, .string cl, .int .u64 (max nx (o.serial + 1)), .slice a36 (l.length + 1) c36]]) (by rw [List.flatMap_append, show (o.serial + 1) % 18446744073709551616 = o.serial + 1 by omega] <;> rfl)
         refine ⟨(a36, c36), rfl, ?_, RowT.new hw2 (by rw [List.length_append] <;> rfl) (.tail _ (.head _)) rfl⟩
         show Upd w w' _ (.cells b [.string ch, .string cl, .int .u64 (max nx (o.serial + 1)), .slice a36 (l ++ [o]).length c36])
         rw [List.length_append]
         exact (hw2.part (.cons del2 .nil)).updd rfl
       )
    )
 ·skip
  (iterate 2 refine jz ?_); refine jnt ?_; refine jc_true rfl ?_; refine jsr ?_; refine jz ?_; refine jnt ?_; refine jc_ret ?_; refine jq_block_ret ?_; refine jq_then_ret ?_; refine jq_ret1 rfl rfl ?_
  exact fun w' hw => by
   have e : putB ⟨ch, cl, nx, l⟩ o = ⟨ch, cl, nx, l⟩ ∧ putE ⟨ch, cl, nx, l⟩ o = (1 : Int) := by
    have e0 : putE ⟨ch, cl, nx, l⟩ o = (1 : Int) := by unfold putE; rw [if_neg (by rw [show mayO ⟨ch, cl, nx, l⟩ o = false by assumption]; decide)]
    have hn : ¬ (1 : Int) = 0 := by first | decide | assumption
    exact ⟨by unfold putB; rw [if_neg (by rw [e0]; exact hn)], e0⟩
   rw [e.1, e.2]
   exact ⟨(ad, c), rfl, (hw.part (F := [.cells b [.string ch, .string cl, .int .u64 nx, .slice ad l.length c]]) (.cons del1 .nil)).updd rfl, .inl ⟨rfl, rfl⟩⟩

theorem lmake_any (b : Nat) (ch cl : ByteArray) (nx : Int) (ad : Option Addr) (l : List Of) (c : Nat) (w : World) (hl : l.length ≤ 1000) (hA : HA.ok w (.cells b [.string ch, .string cl, .int .u64 nx, .slice ad l.length c])) (hE1 : ElO w [b] ad 9 (l.map Of.c)) (face wins many : Int) (salt : ByteArray) (raw : Int) (h1 : fits .u64 face) (h2 : fits .u64 wins) (h3 : fits .u64 many) (h4 : fits .u64 raw) (hsz : salt.size ≤ 1000000) (hlf : ∀ x ∈ l, fits .u64 x.face) (hnx : fits .u64 nx) :
  Calls Tryz.prog 7 #[.pointer (some ⟨b, 0, none⟩), .int .u64 face, .int .u64 wins, .int .u64 many, .string salt, .int .u64 raw] w fun e w' => ∃ pr : Option Addr × Nat, e = .returned (.tuple #[.agg (Of.c (makeO ⟨ch, cl, nx, l⟩ face wins many salt raw)).toArray, .int .i64 (makeE ⟨ch, cl, nx, l⟩ face wins many salt raw)]) ∧ Upd w w' (.cells b [.string ch, .string cl, .int .u64 nx, .slice ad l.length c]) (Bk.h (makeB ⟨ch, cl, nx, l⟩ face wins many salt raw) b pr.1 pr.2) ∧ RowT w w' (ad, c) pr l ((makeB ⟨ch, cl, nx, l⟩ face wins many salt raw)).l := by
 refine calls_of (n := 97) (E := [(0, .pointer (some ⟨b, 0, none⟩)), (1, .int .u64 face), (2, .int .u64 wins), (3, .int .u64 many), (4, .string salt), (5, .int .u64 raw)]) (W := Hp w [b] [.cells b [.string ch, .string cl, .int .u64 nx, .slice ad l.length c]]) Tryz.func7 rfl rfl (Nat.le_of_ble_eq_true rfl) rfl (Hp.start rfl hA) ?_; refine jsr ?_; refine jl_m rfl (by decide) rfl (m_alloc) (fun b12 => ?_); refine jz ?_; refine jnt ?_; refine jsr ?_; (iterate 3 refine jz ?_); refine jpc (goes_func rfl) (fun w1 hw1 => nominal_any _ _ _ w1 h1 h2 h3) ?_; (iterate 5 refine jz ?_); refine jnt ?_; refine jsr ?_; (iterate 2 refine jz ?_); refine jpc (goes_func rfl) (fun w1 hw1 => fair_any _ _ w1 h4 h3) ?_; (iterate 5 refine jz ?_); refine jnt ?_; refine jc_seq ?_; refine jc_block ?_; refine jsr ?_; refine jz ?_; refine jy (y_len_str rfl) ?_; refine jy (y_gtr rfl rfl) ?_; refine jl_prop (fun h36 => ?_) (fun h36 => ?_)
 ·first | (exfalso; omega) | (
   refine jz ?_; (iterate 2 refine jsk ?_); refine jy (y_pick_true rfl rfl) ?_; refine jz ?_; (iterate 2 refine jsk ?_); refine jy (y_pick_true rfl rfl) ?_; refine jz ?_; refine jnt ?_; refine jc_true rfl ?_; refine jsr ?_; refine jy (y_build Built.nil) ?_; refine jst ?_; refine jz ?_; refine jnt ?_; refine jc_ret ?_; refine jq_block_ret ?_; refine jq_then_ret ?_; refine jq_res (.inl rfl) rfl (rca (.tmp rfl .nil)) ?_
   exact fun w' hw => by
    have e0 : makeE ⟨ch, cl, nx, l⟩ face wins many salt raw = (1 : Int) := by
     have eo : offE face wins many salt raw = 1 := if_pos (by omega)
     unfold makeE; rw [eo, if_neg (by decide)]
    have hn : ¬ (1 : Int) = 0 := by first | decide | assumption
    have e1 : makeB ⟨ch, cl, nx, l⟩ face wins many salt raw = ⟨ch, cl, nx, l⟩ := if_neg (by rw [e0]; exact hn)
    have e2 : makeO ⟨ch, cl, nx, l⟩ face wins many salt raw = of0 := if_neg (by rw [e0]; exact hn)
    rw [e1, e2, e0]
    exact ⟨(ad, c), rfl, (hw.part (F := [.cells b [.string ch, .string cl, .int .u64 nx, .slice ad l.length c]]) (.cons del1 .nil)).updd rfl, .inl ⟨rfl, rfl⟩⟩
   )
 ·first | (exfalso; omega) | (
   (iterate 2 refine jz ?_); refine jy (y_eql rfl rfl) ?_; refine jl_prop (fun h39 => ?_) (fun h39 => ?_)
   ·first | (exfalso; omega) | (
     refine jy (y_pick_false rfl rfl) ?_; refine jz ?_; (iterate 2 refine jsk ?_); refine jy (y_pick_true rfl rfl) ?_; refine jz ?_; refine jnt ?_; refine jc_true rfl ?_; refine jsr ?_; refine jy (y_build Built.nil) ?_; refine jst ?_; refine jz ?_; refine jnt ?_; refine jc_ret ?_; refine jq_block_ret ?_; refine jq_then_ret ?_; refine jq_res (.inl rfl) rfl (rca (.tmp rfl .nil)) ?_
     exact fun w' hw => by
      have e0 : makeE ⟨ch, cl, nx, l⟩ face wins many salt raw = (1 : Int) := by
       have eo : offE face wins many salt raw = 1 := if_pos (by omega)
       unfold makeE; rw [eo, if_neg (by decide)]
      have hn : ¬ (1 : Int) = 0 := by first | decide | assumption
      have e1 : makeB ⟨ch, cl, nx, l⟩ face wins many salt raw = ⟨ch, cl, nx, l⟩ := if_neg (by rw [e0]; exact hn)
      have e2 : makeO ⟨ch, cl, nx, l⟩ face wins many salt raw = of0 := if_neg (by rw [e0]; exact hn)
      rw [e1, e2, e0]
      exact ⟨(ad, c), rfl, (hw.part (F := [.cells b [.string ch, .string cl, .int .u64 nx, .slice ad l.length c]]) (.cons del1 .nil)).updd rfl, .inl ⟨rfl, rfl⟩⟩
     )
   ·first | (exfalso; omega) | (
     refine jy (y_pick_false rfl rfl) ?_; (iterate 2 refine jz ?_); refine jy (y_eql rfl rfl) ?_; refine jl_prop (fun h43 => ?_) (fun h43 => ?_)
     ·first | (exfalso; omega) | (
       refine jy (y_pick_false rfl rfl) ?_; refine jz ?_; refine jnt ?_; refine jc_true rfl ?_; refine jsr ?_; refine jy (y_build Built.nil) ?_; refine jst ?_; refine jz ?_; refine jnt ?_; refine jc_ret ?_; refine jq_block_ret ?_; refine jq_then_ret ?_; refine jq_res (.inl rfl) rfl (rca (.tmp rfl .nil)) ?_
       exact fun w' hw => by
        have e0 : makeE ⟨ch, cl, nx, l⟩ face wins many salt raw = (1 : Int) := by
         have eo : offE face wins many salt raw = 1 := if_pos (by omega)
         unfold makeE; rw [eo, if_neg (by decide)]
        have hn : ¬ (1 : Int) = 0 := by first | decide | assumption
        have e1 : makeB ⟨ch, cl, nx, l⟩ face wins many salt raw = ⟨ch, cl, nx, l⟩ := if_neg (by rw [e0]; exact hn)
        have e2 : makeO ⟨ch, cl, nx, l⟩ face wins many salt raw = of0 := if_neg (by rw [e0]; exact hn)
        rw [e1, e2, e0]
        exact ⟨(ad, c), rfl, (hw.part (F := [.cells b [.string ch, .string cl, .int .u64 nx, .slice ad l.length c]]) (.cons del1 .nil)).updd rfl, .inl ⟨rfl, rfl⟩⟩
       )
     ·first | (exfalso; omega) | (
       refine jy (y_pick_false rfl rfl) ?_; refine jz ?_; refine jnt ?_; refine jc_false rfl ?_; refine jsr ?_; refine jz ?_; refine jy (y_neq rfl rfl) ?_; refine jl_prop (fun h48 => ?_) (fun h48 => ?_)
       ·first | (exfalso; omega) | (
         refine jz ?_; (iterate 2 refine jsk ?_); refine jy (y_pick_true rfl rfl) ?_; refine jz ?_; refine jnt ?_; refine jc_true rfl ?_; refine jsr ?_; refine jy (y_build Built.nil) ?_; refine jst ?_; refine jz ?_; refine jnt ?_; refine jc_ret ?_; refine jq_block_ret ?_; refine jq_then_ret ?_; refine jq_res (.inl rfl) rfl (rca (.tmp rfl .nil)) ?_
         exact fun w' hw => by
          have e0 : makeE ⟨ch, cl, nx, l⟩ face wins many salt raw = (4 : Int) := by
           have eo : offE face wins many salt raw = 4 := by unfold offE; rw [if_neg (by omega), if_pos (by omega)]
           unfold makeE; rw [eo, if_neg (by decide)]
          have hn : ¬ (4 : Int) = 0 := by first | decide | assumption
          have e1 : makeB ⟨ch, cl, nx, l⟩ face wins many salt raw = ⟨ch, cl, nx, l⟩ := if_neg (by rw [e0]; exact hn)
          have e2 : makeO ⟨ch, cl, nx, l⟩ face wins many salt raw = of0 := if_neg (by rw [e0]; exact hn)
          rw [e1, e2, e0]
          exact ⟨(ad, c), rfl, (hw.part (F := [.cells b [.string ch, .string cl, .int .u64 nx, .slice ad l.length c]]) (.cons del1 .nil)).updd rfl, .inl ⟨rfl, rfl⟩⟩
         )
       ·first | (exfalso; omega) | (
         (iterate 2 refine jz ?_); refine jy (y_neq rfl rfl) ?_; refine jl_prop (fun h51 => ?_) (fun h51 => ?_)
         ·first | (exfalso; omega) | (
           refine jy (y_pick_false rfl rfl) ?_; refine jz ?_; refine jnt ?_; refine jc_true rfl ?_; refine jsr ?_; refine jy (y_build Built.nil) ?_; refine jst ?_; refine jz ?_; refine jnt ?_; refine jc_ret ?_; refine jq_block_ret ?_; refine jq_then_ret ?_; refine jq_res (.inl rfl) rfl (rca (.tmp rfl .nil)) ?_
           exact fun w' hw => by
            have e0 : makeE ⟨ch, cl, nx, l⟩ face wins many salt raw = (4 : Int) := by
             have eo : offE face wins many salt raw = 4 := by unfold offE; rw [if_neg (by omega), if_pos (by omega)]
             unfold makeE; rw [eo, if_neg (by decide)]
            have hn : ¬ (4 : Int) = 0 := by first | decide | assumption
            have e1 : makeB ⟨ch, cl, nx, l⟩ face wins many salt raw = ⟨ch, cl, nx, l⟩ := if_neg (by rw [e0]; exact hn)
            have e2 : makeO ⟨ch, cl, nx, l⟩ face wins many salt raw = of0 := if_neg (by rw [e0]; exact hn)
            rw [e1, e2, e0]
            exact ⟨(ad, c), rfl, (hw.part (F := [.cells b [.string ch, .string cl, .int .u64 nx, .slice ad l.length c]]) (.cons del1 .nil)).updd rfl, .inl ⟨rfl, rfl⟩⟩
           )
         ·first | (exfalso; omega) | (
           refine jy (y_pick_false rfl rfl) ?_; refine jz ?_; refine jnt ?_; refine jc_false rfl ?_; refine jc_skip ?_; refine jq_block ?_; refine jq_then ?_; refine jc_seq ?_; refine jsr ?_; (iterate 2 refine jz ?_); refine jpc (goes_func rfl) (fun w1 hw1 => lroom_any b ad l c w1 hl (CellAt.of_cells (hw1.get (A := .cells b [.string ch, .string cl, .int .u64 nx, .slice ad l.length c]) mem1) rfl) (hE1.keep hw1).el hlf _ h1) ?_; refine jz ?_; refine jnt ?_; refine jsr ?_; refine jz ?_; refine jy (y_neq rfl rfl) ?_; refine jl_prop (fun h58 => ?_) (fun h58 => ?_)
           ·first | (exfalso; omega) | (
             refine jnt ?_; refine jc_true rfl ?_; refine jsr ?_; refine jy (y_build Built.nil) ?_; refine jz ?_; refine jst ?_; refine jz ?_; refine jnt ?_; refine jc_ret ?_; refine jq_then_ret ?_; refine jq_res (.inl rfl) rfl (rca (.tmp rfl .nil)) ?_
             exact fun w' hw => by
              have e0 : makeE ⟨ch, cl, nx, l⟩ face wins many salt raw = roomE l face := by
               have eo : offE face wins many salt raw = 0 := by unfold offE; rw [if_neg (by omega), if_neg (by omega)]
               unfold makeE; rw [eo, if_pos rfl]
              have hn : ¬ roomE l face = 0 := by first | decide | assumption
              have e1 : makeB ⟨ch, cl, nx, l⟩ face wins many salt raw = ⟨ch, cl, nx, l⟩ := if_neg (by rw [e0]; exact hn)
              have e2 : makeO ⟨ch, cl, nx, l⟩ face wins many salt raw = of0 := if_neg (by rw [e0]; exact hn)
              rw [e1, e2, e0]
              exact ⟨(ad, c), rfl, (hw.part (F := [.cells b [.string ch, .string cl, .int .u64 nx, .slice ad l.length c]]) (.cons del1 .nil)).updd rfl, .inl ⟨rfl, rfl⟩⟩
             )
           ·first | (exfalso; omega) | (
             refine jnt ?_; refine jc_false rfl ?_; refine jc_skip ?_; refine jq_then ?_; refine jc_seq ?_
             have hfr := fairV_fits raw many h4
             refine jc_tree 18 (.step 0 true (.step 1 true (.step 2 true (.step 3 true (.step 4 true (.step 5 true (.step 6 true (.step 7 true (.step 8 true (.step 9 true (.step 10 true (.step 11 true (.step 12 true (.step 14 true (.step 15 true (.fork 13 (.step 16 true (.step 17 false .nil)) 17 (.step 13 false (.step 16 true .nil)))))))))))))))))) (by kernel_rfl) (fun _ _ _ _ h => h) (fun _ h => h.drew) ?_
             simp only [List.drop_succ_cons, List.drop_zero]
             refine jf_take rfl rfl (by decide) rfl (y_move rfl) ?_
             first | refine jf_take rfl rfl (by decide) rfl (y_nilCheck rfl) ?_ | refine jf_take rfl rfl (by decide) rfl (y_nilCheck_func rfl) ?_
             refine jf_take rfl rfl (by decide) rfl (y_fieldAddr rfl) ?_
             first | refine jf_take rfl rfl (by decide) rfl (y_load rfl (by first | exact mem0 | exact mem1 | exact mem2 | exact mem3 | exact mem4 | exact mem5) rfl) ?_ | refine jf_take rfl rfl (by decide) rfl (y_load_row rfl (by first | exact mem0 | exact mem1 | exact mem2 | exact mem3 | exact mem4 | exact mem5) rfl) ?_ | refine jf_take rfl rfl (by decide) rfl (y_load_old rfl (by assumption) (by simp)) ?_
             refine jf_take rfl rfl (by decide) rfl (y_move rfl) ?_
             first | refine jf_take rfl rfl (by decide) rfl (y_nilCheck rfl) ?_ | refine jf_take rfl rfl (by decide) rfl (y_nilCheck_func rfl) ?_
             refine jf_take rfl rfl (by decide) rfl (y_fieldAddr rfl) ?_
             first | refine jf_take rfl rfl (by decide) rfl (y_load rfl (by first | exact mem0 | exact mem1 | exact mem2 | exact mem3 | exact mem4 | exact mem5) rfl) ?_ | refine jf_take rfl rfl (by decide) rfl (y_load_row rfl (by first | exact mem0 | exact mem1 | exact mem2 | exact mem3 | exact mem4 | exact mem5) rfl) ?_ | refine jf_take rfl rfl (by decide) rfl (y_load_old rfl (by assumption) (by simp)) ?_
             (iterate 7 refine jf_take rfl rfl (by decide) rfl (y_move rfl) ?_); refine jf_fork ?_ ?_
             ·skip
              refine jf_pcall (by intro _ h; first | exact h | exact h.pop | exact h.pop.pop | exact h.pop.pop.pop | exact h.pop.pop.pop.pop | exact h.pop.pop.pop.pop.pop | exact h.pop.pop.pop.pop.pop.pop | exact h.part .nil) rfl rfl (by decide) rfl (goes_func rfl) (fun w1 hw1 => pcall hw1 (commit_any _ _ w1 (by omega) hfr)) ?_; refine jf_take rfl rfl (by decide) rfl (y_build (Built.cell rfl rfl rfl (by repeat constructor) (Built.cell rfl rfl rfl (by repeat constructor) (Built.cell rfl rfl rfl (by repeat constructor) (Built.cell rfl rfl rfl (by repeat constructor) (Built.cell rfl rfl rfl (by repeat constructor) (Built.cell rfl rfl rfl (by repeat constructor) (Built.cell rfl rfl rfl (by repeat constructor) (Built.cell rfl rfl rfl (by repeat constructor) (Built.cell rfl rfl rfl (by repeat constructor) Built.nil)))))))))) ?_; refine jf_m (by intros; rename_i h; first | exact h | exact h.pop | exact h.pop.pop | exact h.pop.pop.pop | exact h.pop.pop.pop.pop | exact h.pop.pop.pop.pop.pop | exact h.pop.pop.pop.pop.pop.pop | exact h.part .nil) rfl rfl (by decide) rfl (m_alloc) (fun b19 => ?_); refine jf_nil ?_; refine jst ?_; refine jnt ?_; refine jsr ?_; (iterate 4 refine jz ?_); refine jy (y_add_u64 rfl rfl) ?_; (iterate 2 refine jz ?_); refine jst ?_; refine jnt ?_; refine jc_seq ?_; refine jc_tree 11 (.step 0 true (.step 1 true (.step 2 true (.step 3 true (.step 4 true (.step 6 true (.fork 5 (.step 7 false (.step 8 false (.step 9 true (.step 10 true .nil)))) 7 (.step 5 false (.step 8 false (.step 9 true (.step 10 true .nil))))))))))) (by kernel_rfl) (fun _ _ _ _ h => h) (fun _ h => h.drew) ?_
              simp only [List.drop_succ_cons, List.drop_zero]
              iterate 2 refine jf_take rfl rfl (by decide) rfl (y_move rfl) ?_
              first | refine jf_take rfl rfl (by decide) rfl (y_nilCheck rfl) ?_ | refine jf_take rfl rfl (by decide) rfl (y_nilCheck_func rfl) ?_
              refine jf_take rfl rfl (by decide) rfl (y_fieldAddr rfl) ?_
              first | refine jf_take rfl rfl (by decide) rfl (y_load rfl (by first | exact mem0 | exact mem1 | exact mem2 | exact mem3 | exact mem4 | exact mem5) rfl) ?_ | refine jf_take rfl rfl (by decide) rfl (y_load_row rfl (by first | exact mem0 | exact mem1 | exact mem2 | exact mem3 | exact mem4 | exact mem5) rfl) ?_ | refine jf_take rfl rfl (by decide) rfl (y_load_old rfl (by assumption) (by simp)) ?_
              first | refine jf_take rfl rfl (by decide) rfl (y_loadAgg rfl (by first | exact mem0 | exact mem1 | exact mem2 | exact mem3 | exact mem4 | exact mem5) (by repeat constructor)) ?_ | refine jf_take rfl rfl (by decide) rfl (y_loadAgg_row rfl (by first | exact mem0 | exact mem1 | exact mem2 | exact mem3 | exact mem4 | exact mem5) rfl (by assumption)) ?_ | refine jf_take rfl rfl (by decide) rfl (y_loadAgg_old rfl rfl (by assumption) (by simp)) ?_
              refine jf_fork ?_ ?_
              ·skip
               refine jf_fcall (by intros; rename_i h; first | exact h | exact h.pop | exact h.pop.pop | exact h.pop.pop.pop | exact h.pop.pop.pop.pop | exact h.pop.pop.pop.pop.pop | exact h.pop.pop.pop.pop.pop.pop | exact h.part .nil) rfl rfl (by decide) rfl (goes_func rfl) (fun w1 hw1 => cloneOf_any ad c l w1 (by omega) (hE1.keep hw1).el) (fun ⟨a90, c90⟩ => ?_); refine jf_m (by intros; rename_i h; first | exact h | exact h.pop | exact h.pop.pop | exact h.pop.pop.pop | exact h.pop.pop.pop.pop | exact h.pop.pop.pop.pop.pop | exact h.pop.pop.pop.pop.pop.pop | exact h.part .nil) rfl rfl (by decide) rfl (m_buildSlice (size := 9) (by decide) (Built.agg rfl rfl rfl (by repeat constructor) Built.nil)) (fun b92 => ?_); refine jf_m2 (by intros; rename_i h; first | exact h | exact h.pop | exact h.pop.pop | exact h.pop.pop.pop | exact h.pop.pop.pop.pop | exact h.pop.pop.pop.pop.pop | exact h.pop.pop.pop.pop.pop.pop | exact h.part .nil) rfl rfl (by decide) rfl (m_append rfl rfl (by first | exact del0 | exact del1 | exact del2 | exact del3 | exact del4) (by first | exact del0 | exact del1 | exact del2 | exact del3 | exact del4) rfl (by omega) (by omega)) (fun a93 c93 => ?_)
               first | refine jf_take rfl rfl (by decide) rfl (y_nilCheck rfl) ?_ | refine jf_take rfl rfl (by decide) rfl (y_nilCheck_func rfl) ?_
               refine jf_take rfl rfl (by decide) rfl (y_fieldAddr rfl) ?_; refine jf_nil ?_; refine jst ?_; refine jnt ?_; refine jsr ?_; refine jz ?_; refine jst ?_; refine jz ?_; refine jnt ?_; refine jc_ret ?_; refine jq_res (.inl rfl) rfl (rca (.tmp rfl .nil)) ?_
               exact fun w' hw => by
                have e0 : makeE ⟨ch, cl, nx, l⟩ face wins many salt raw = 0 := by
                 have eo : offE face wins many salt raw = 0 := by unfold offE; rw [if_neg (by omega), if_neg (by omega)]
                 unfold makeE; rw [eo, if_pos rfl]
                 exact Decidable.not_not.1 (by assumption)
                have e1 : makeB ⟨ch, cl, nx, l⟩ face wins many salt raw = ⟨ch, cl, (nx + 1) % 18446744073709551616, l ++ [newO ⟨ch, cl, nx, l⟩ face wins many salt raw]⟩ := if_pos e0
                have e2 : makeO ⟨ch, cl, nx, l⟩ face wins many salt raw = newO ⟨ch, cl, nx, l⟩ face wins many salt raw := if_pos e0
                rw [e1, e2, e0]
                have hw2 := hw.cast (H' := [.row a93 (l.length + 1) c93 32 9 ((l ++ [newO ⟨ch, cl, nx, l⟩ face wins many salt raw]).flatMap Of.c), .cells b19 (Of.c (newO ⟨ch, cl, nx, l⟩ face wins many salt raw)), .cells b12 (Of.c (newO ⟨ch, cl, nx, l⟩ face wins many salt raw)), .cells b [.string ch, .string cl, .int .u64 ((nx + 1) % 18446744073709551616), .slice a93 (l.length + 1) c93]]) (by rw [List.flatMap_append] <;> rfl)
                refine ⟨(a93, c93), rfl, ?_, RowT.new hw2 (by rw [List.length_append] <;> rfl) (.tail _ (.tail _ (.head _))) rfl⟩
                show Upd w w' _ (.cells b [.string ch, .string cl, .int .u64 ((nx + 1) % 18446744073709551616), .slice a93 (l ++ [newO ⟨ch, cl, nx, l⟩ face wins many salt raw]).length c93])
                rw [List.length_append]
                exact (hw2.part (.cons del3 .nil)).updd rfl
              ·skip
               refine jf_m (by intros; rename_i h; first | exact h | exact h.pop | exact h.pop.pop | exact h.pop.pop.pop | exact h.pop.pop.pop.pop | exact h.pop.pop.pop.pop.pop | exact h.pop.pop.pop.pop.pop.pop | exact h.part .nil) rfl rfl (by decide) rfl (m_buildSlice (size := 9) (by decide) (Built.agg rfl rfl rfl (by repeat constructor) Built.nil)) (fun b92 => ?_); refine jf_fcall (by intros; rename_i h; first | exact h | exact h.pop | exact h.pop.pop | exact h.pop.pop.pop | exact h.pop.pop.pop.pop | exact h.pop.pop.pop.pop.pop | exact h.pop.pop.pop.pop.pop.pop | exact h.part .nil) rfl rfl (by decide) rfl (goes_func rfl) (fun w1 hw1 => cloneOf_any ad c l w1 (by omega) (hE1.keep hw1).el) (fun ⟨a90, c90⟩ => ?_); refine jf_m2 (by intros; rename_i h; first | exact h | exact h.pop | exact h.pop.pop | exact h.pop.pop.pop | exact h.pop.pop.pop.pop | exact h.pop.pop.pop.pop.pop | exact h.pop.pop.pop.pop.pop.pop | exact h.part .nil) rfl rfl (by decide) rfl (m_append rfl rfl (by first | exact del0 | exact del1 | exact del2 | exact del3 | exact del4) (by first | exact del0 | exact del1 | exact del2 | exact del3 | exact del4) rfl (by omega) (by omega)) (fun a93 c93 => ?_)
               first | refine jf_take rfl rfl (by decide) rfl (y_nilCheck rfl) ?_ | refine jf_take rfl rfl (by decide) rfl (y_nilCheck_func rfl) ?_
               refine jf_take rfl rfl (by decide) rfl (y_fieldAddr rfl) ?_; refine jf_nil ?_; refine jst ?_; refine jnt ?_; refine jsr ?_; refine jz ?_; refine jst ?_; refine jz ?_; refine jnt ?_; refine jc_ret ?_; refine jq_res (.inl rfl) rfl (rca (.tmp rfl .nil)) ?_
               exact fun w' hw => by
                have e0 : makeE ⟨ch, cl, nx, l⟩ face wins many salt raw = 0 := by
                 have eo : offE face wins many salt raw = 0 := by unfold offE; rw [if_neg (by omega), if_neg (by omega)]
                 unfold makeE; rw [eo, if_pos rfl]
                 exact Decidable.not_not.1 (by assumption)
                have e1 : makeB ⟨ch, cl, nx, l⟩ face wins many salt raw = ⟨ch, cl, (nx + 1) % 18446744073709551616, l ++ [newO ⟨ch, cl, nx, l⟩ face wins many salt raw]⟩ := if_pos e0
                have e2 : makeO ⟨ch, cl, nx, l⟩ face wins many salt raw = newO ⟨ch, cl, nx, l⟩ face wins many salt raw := if_pos e0
                rw [e1, e2, e0]
                have hw2 := hw.cast (H' := [.row a93 (l.length + 1) c93 32 9 ((l ++ [newO ⟨ch, cl, nx, l⟩ face wins many salt raw]).flatMap Of.c), .cells b19 (Of.c (newO ⟨ch, cl, nx, l⟩ face wins many salt raw)), .cells b12 (Of.c (newO ⟨ch, cl, nx, l⟩ face wins many salt raw)), .cells b [.string ch, .string cl, .int .u64 ((nx + 1) % 18446744073709551616), .slice a93 (l.length + 1) c93]]) (by rw [List.flatMap_append] <;> rfl)
                refine ⟨(a93, c93), rfl, ?_, RowT.new hw2 (by rw [List.length_append] <;> rfl) (.tail _ (.tail _ (.head _))) rfl⟩
                show Upd w w' _ (.cells b [.string ch, .string cl, .int .u64 ((nx + 1) % 18446744073709551616), .slice a93 (l ++ [newO ⟨ch, cl, nx, l⟩ face wins many salt raw]).length c93])
                rw [List.length_append]
                exact (hw2.part (.cons del3 .nil)).updd rfl
             ·skip
              refine jf_m (by intros; rename_i h; first | exact h | exact h.pop | exact h.pop.pop | exact h.pop.pop.pop | exact h.pop.pop.pop.pop | exact h.pop.pop.pop.pop.pop | exact h.pop.pop.pop.pop.pop.pop | exact h.part .nil) rfl rfl (by decide) rfl (m_alloc) (fun b19 => ?_); refine jf_pcall (by intro _ h; first | exact h | exact h.pop | exact h.pop.pop | exact h.pop.pop.pop | exact h.pop.pop.pop.pop | exact h.pop.pop.pop.pop.pop | exact h.pop.pop.pop.pop.pop.pop | exact h.part .nil) rfl rfl (by decide) rfl (goes_func rfl) (fun w1 hw1 => pcall hw1 (commit_any _ _ w1 (by omega) hfr)) ?_; refine jf_take rfl rfl (by decide) rfl (y_build (Built.cell rfl rfl rfl (by repeat constructor) (Built.cell rfl rfl rfl (by repeat constructor) (Built.cell rfl rfl rfl (by repeat constructor) (Built.cell rfl rfl rfl (by repeat constructor) (Built.cell rfl rfl rfl (by repeat constructor) (Built.cell rfl rfl rfl (by repeat constructor) (Built.cell rfl rfl rfl (by repeat constructor) (Built.cell rfl rfl rfl (by repeat constructor) (Built.cell rfl rfl rfl (by repeat constructor) Built.nil)))))))))) ?_; refine jf_nil ?_; refine jst ?_; refine jnt ?_; refine jsr ?_; (iterate 4 refine jz ?_); refine jy (y_add_u64 rfl rfl) ?_; (iterate 2 refine jz ?_); refine jst ?_; refine jnt ?_; refine jc_seq ?_; refine jc_tree 11 (.step 0 true (.step 1 true (.step 2 true (.step 3 true (.step 4 true (.step 6 true (.fork 5 (.step 7 false (.step 8 false (.step 9 true (.step 10 true .nil)))) 7 (.step 5 false (.step 8 false (.step 9 true (.step 10 true .nil))))))))))) (by kernel_rfl) (fun _ _ _ _ h => h) (fun _ h => h.drew) ?_
              simp only [List.drop_succ_cons, List.drop_zero]
              iterate 2 refine jf_take rfl rfl (by decide) rfl (y_move rfl) ?_
              first | refine jf_take rfl rfl (by decide) rfl (y_nilCheck rfl) ?_ | refine jf_take rfl rfl (by decide) rfl (y_nilCheck_func rfl) ?_
              refine jf_take rfl rfl (by decide) rfl (y_fieldAddr rfl) ?_
              first | refine jf_take rfl rfl (by decide) rfl (y_load rfl (by first | exact mem0 | exact mem1 | exact mem2 | exact mem3 | exact mem4 | exact mem5) rfl) ?_ | refine jf_take rfl rfl (by decide) rfl (y_load_row rfl (by first | exact mem0 | exact mem1 | exact mem2 | exact mem3 | exact mem4 | exact mem5) rfl) ?_ | refine jf_take rfl rfl (by decide) rfl (y_load_old rfl (by assumption) (by simp)) ?_
              first | refine jf_take rfl rfl (by decide) rfl (y_loadAgg rfl (by first | exact mem0 | exact mem1 | exact mem2 | exact mem3 | exact mem4 | exact mem5) (by repeat constructor)) ?_ | refine jf_take rfl rfl (by decide) rfl (y_loadAgg_row rfl (by first | exact mem0 | exact mem1 | exact mem2 | exact mem3 | exact mem4 | exact mem5) rfl (by assumption)) ?_ | refine jf_take rfl rfl (by decide) rfl (y_loadAgg_old rfl rfl (by assumption) (by simp)) ?_
              refine jf_fork ?_ ?_
              ·skip
               refine jf_fcall (by intros; rename_i h; first | exact h | exact h.pop | exact h.pop.pop | exact h.pop.pop.pop | exact h.pop.pop.pop.pop | exact h.pop.pop.pop.pop.pop | exact h.pop.pop.pop.pop.pop.pop | exact h.part .nil) rfl rfl (by decide) rfl (goes_func rfl) (fun w1 hw1 => cloneOf_any ad c l w1 (by omega) (hE1.keep hw1).el) (fun ⟨a90, c90⟩ => ?_); refine jf_m (by intros; rename_i h; first | exact h | exact h.pop | exact h.pop.pop | exact h.pop.pop.pop | exact h.pop.pop.pop.pop | exact h.pop.pop.pop.pop.pop | exact h.pop.pop.pop.pop.pop.pop | exact h.part .nil) rfl rfl (by decide) rfl (m_buildSlice (size := 9) (by decide) (Built.agg rfl rfl rfl (by repeat constructor) Built.nil)) (fun b92 => ?_); refine jf_m2 (by intros; rename_i h; first | exact h | exact h.pop | exact h.pop.pop | exact h.pop.pop.pop | exact h.pop.pop.pop.pop | exact h.pop.pop.pop.pop.pop | exact h.pop.pop.pop.pop.pop.pop | exact h.part .nil) rfl rfl (by decide) rfl (m_append rfl rfl (by first | exact del0 | exact del1 | exact del2 | exact del3 | exact del4) (by first | exact del0 | exact del1 | exact del2 | exact del3 | exact del4) rfl (by omega) (by omega)) (fun a93 c93 => ?_)
               first | refine jf_take rfl rfl (by decide) rfl (y_nilCheck rfl) ?_ | refine jf_take rfl rfl (by decide) rfl (y_nilCheck_func rfl) ?_
               refine jf_take rfl rfl (by decide) rfl (y_fieldAddr rfl) ?_; refine jf_nil ?_; refine jst ?_; refine jnt ?_; refine jsr ?_; refine jz ?_; refine jst ?_; refine jz ?_; refine jnt ?_; refine jc_ret ?_; refine jq_res (.inl rfl) rfl (rca (.tmp rfl .nil)) ?_
               exact fun w' hw => by
                have e0 : makeE ⟨ch, cl, nx, l⟩ face wins many salt raw = 0 := by
                 have eo : offE face wins many salt raw = 0 := by unfold offE; rw [if_neg (by omega), if_neg (by omega)]
                 unfold makeE; rw [eo, if_pos rfl]
                 exact Decidable.not_not.1 (by assumption)
                have e1 : makeB ⟨ch, cl, nx, l⟩ face wins many salt raw = ⟨ch, cl, (nx + 1) % 18446744073709551616, l ++ [newO ⟨ch, cl, nx, l⟩ face wins many salt raw]⟩ := if_pos e0
                have e2 : makeO ⟨ch, cl, nx, l⟩ face wins many salt raw = newO ⟨ch, cl, nx, l⟩ face wins many salt raw := if_pos e0
                rw [e1, e2, e0]
                have hw2 := hw.cast (H' := [.row a93 (l.length + 1) c93 32 9 ((l ++ [newO ⟨ch, cl, nx, l⟩ face wins many salt raw]).flatMap Of.c), .cells b19 (Of.c (newO ⟨ch, cl, nx, l⟩ face wins many salt raw)), .cells b12 (Of.c (newO ⟨ch, cl, nx, l⟩ face wins many salt raw)), .cells b [.string ch, .string cl, .int .u64 ((nx + 1) % 18446744073709551616), .slice a93 (l.length + 1) c93]]) (by rw [List.flatMap_append] <;> rfl)
                refine ⟨(a93, c93), rfl, ?_, RowT.new hw2 (by rw [List.length_append] <;> rfl) (.tail _ (.tail _ (.head _))) rfl⟩
                show Upd w w' _ (.cells b [.string ch, .string cl, .int .u64 ((nx + 1) % 18446744073709551616), .slice a93 (l ++ [newO ⟨ch, cl, nx, l⟩ face wins many salt raw]).length c93])
                rw [List.length_append]
                exact (hw2.part (.cons del3 .nil)).updd rfl
              ·skip
               refine jf_m (by intros; rename_i h; first | exact h | exact h.pop | exact h.pop.pop | exact h.pop.pop.pop | exact h.pop.pop.pop.pop | exact h.pop.pop.pop.pop.pop | exact h.pop.pop.pop.pop.pop.pop | exact h.part .nil) rfl rfl (by decide) rfl (m_buildSlice (size := 9) (by decide) (Built.agg rfl rfl rfl (by repeat constructor) Built.nil)) (fun b92 => ?_); refine jf_fcall (by intros; rename_i h; first | exact h | exact h.pop | exact h.pop.pop | exact h.pop.pop.pop | exact h.pop.pop.pop.pop | exact h.pop.pop.pop.pop.pop | exact h.pop.pop.pop.pop.pop.pop | exact h.part .nil) rfl rfl (by decide) rfl (goes_func rfl) (fun w1 hw1 => cloneOf_any ad c l w1 (by omega) (hE1.keep hw1).el) (fun ⟨a90, c90⟩ => ?_); refine jf_m2 (by intros; rename_i h; first | exact h | exact h.pop | exact h.pop.pop | exact h.pop.pop.pop | exact h.pop.pop.pop.pop | exact h.pop.pop.pop.pop.pop | exact h.pop.pop.pop.pop.pop.pop | exact h.part .nil) rfl rfl (by decide) rfl (m_append rfl rfl (by first | exact del0 | exact del1 | exact del2 | exact del3 | exact del4) (by first | exact del0 | exact del1 | exact del2 | exact del3 | exact del4) rfl (by omega) (by omega)) (fun a93 c93 => ?_)
               first | refine jf_take rfl rfl (by decide) rfl (y_nilCheck rfl) ?_ | refine jf_take rfl rfl (by decide) rfl (y_nilCheck_func rfl) ?_
               refine jf_take rfl rfl (by decide) rfl (y_fieldAddr rfl) ?_; refine jf_nil ?_; refine jst ?_; refine jnt ?_; refine jsr ?_; refine jz ?_; refine jst ?_; refine jz ?_; refine jnt ?_; refine jc_ret ?_; refine jq_res (.inl rfl) rfl (rca (.tmp rfl .nil)) ?_
               exact fun w' hw => by
                have e0 : makeE ⟨ch, cl, nx, l⟩ face wins many salt raw = 0 := by
                 have eo : offE face wins many salt raw = 0 := by unfold offE; rw [if_neg (by omega), if_neg (by omega)]
                 unfold makeE; rw [eo, if_pos rfl]
                 exact Decidable.not_not.1 (by assumption)
                have e1 : makeB ⟨ch, cl, nx, l⟩ face wins many salt raw = ⟨ch, cl, (nx + 1) % 18446744073709551616, l ++ [newO ⟨ch, cl, nx, l⟩ face wins many salt raw]⟩ := if_pos e0
                have e2 : makeO ⟨ch, cl, nx, l⟩ face wins many salt raw = newO ⟨ch, cl, nx, l⟩ face wins many salt raw := if_pos e0
                rw [e1, e2, e0]
                have hw2 := hw.cast (H' := [.row a93 (l.length + 1) c93 32 9 ((l ++ [newO ⟨ch, cl, nx, l⟩ face wins many salt raw]).flatMap Of.c), .cells b19 (Of.c (newO ⟨ch, cl, nx, l⟩ face wins many salt raw)), .cells b12 (Of.c (newO ⟨ch, cl, nx, l⟩ face wins many salt raw)), .cells b [.string ch, .string cl, .int .u64 ((nx + 1) % 18446744073709551616), .slice a93 (l.length + 1) c93]]) (by rw [List.flatMap_append] <;> rfl)
                refine ⟨(a93, c93), rfl, ?_, RowT.new hw2 (by rw [List.length_append] <;> rfl) (.tail _ (.tail _ (.head _))) rfl⟩
                show Upd w w' _ (.cells b [.string ch, .string cl, .int .u64 ((nx + 1) % 18446744073709551616), .slice a93 (l ++ [newO ⟨ch, cl, nx, l⟩ face wins many salt raw]).length c93])
                rw [List.length_append]
                exact (hw2.part (.cons del3 .nil)).updd rfl
             )
           )
         )
       )
     )
   )

end Go.Proofs.YtghomncegjamfaaGreat