/- Same, Sum, and the fixed case of the lottery's laws. Written by program (walk.py) out of a table of contracts and invariants. -/
import Derived.Test.YtghomncegjamfaaGreatLw
import Derived.Test.YtghomncegjamfaaGreatMlop
namespace Go.Proofs.YtghomncegjamfaaGreat
open Go.RowKit
set_option maxRecDepth 100000
set_option maxHeartbeats 2000000
set_option linter.unusedVariables false
set_option linter.unusedSimpArgs false
attribute [local irreducible] Yields Makes Writes
section
variable {w0 w : World} {S : List Nat} {H : List HA} {B : Bk} {b c : Nat} {ad : Option Addr}
/-- A book and its row, both own. -/
structure BkIn (H : List HA) (B : Bk) (b : Nat) (ad : Option Addr) (c : Nat) : Prop where
  h : B.h b ad c ∈ H
  r : Bk.r B.l ad c ∈ H
  len : B.l.length ≤ 1000
theorem BkIn.cell (h : Hp w0 S H w) (i : BkIn H B b ad c) : CellAt w b 3 (.slice ad B.l.length c) := CellAt.of_cells (h.get i.h) rfl
theorem BkIn.el (h : Hp w0 S H w) (i : BkIn H B b ad c) : ElAt w ad 9 (B.l.map Of.c) := ElAt.of_row (c := Of.c) (fun _ => rfl) rfl (h.get i.r)
theorem bk_make (h : Hp w0 S H w) (i : BkIn H B b ad c) (hf : B.Fit) (face wins many : Int) (salt : ByteArray) (raw : Int) (h1 : fits .u64 face) (h2 : fits .u64 wins) (h3 : fits .u64 many) (h4 : fits .u64 raw) (hs : salt.size ≤ 1000000) :
    Calls Tryz.prog 7 #[.pointer (some ⟨b, 0, none⟩), .int .u64 face, .int .u64 wins, .int .u64 many, .string salt, .int .u64 raw] w fun e w' => ∃ pr : Option Addr × Nat, e = .returned (.tuple #[.agg (Of.c (makeO B face wins many salt raw)).toArray, .int .i64 (makeE B face wins many salt raw)]) ∧ Upd w w' (B.h b ad c) ((makeB B face wins many salt raw).h b pr.1 pr.2) ∧ RowT w w' (ad, c) pr B.l (makeB B face wins many salt raw).l :=
  lmake_any b B.chan B.cl B.next ad B.l c w i.len (h.get i.h) (row_elO h i.h i.r) face wins many salt raw h1 h2 h3 h4 hs (fun x hx => (hf.l x hx).face) hf.next
theorem bk_gone (h : Hp w0 S H w) (i : BkIn H B b ad c) (s : Int) :
    Calls Tryz.prog 8 #[.pointer (some ⟨b, 0, none⟩), .int .u64 s] w fun e w' => ∃ pr : Option Addr × Nat, e = .returned (.int .i64 (goneE B s)) ∧ Upd w w' (B.h b ad c) ((goneB B s).h b pr.1 pr.2) ∧ RowT w w' (ad, c) pr B.l (goneB B s).l :=
  lgone_any b B.chan B.cl B.next ad B.l c w i.len (h.get i.h) (row_elO h i.h i.r) s
theorem bk_put (h : Hp w0 S H w) (i : BkIn H B b ad c) (hf : B.Fit) (o : Of) (ho : o.Fit) (hs : o.salt.size ≤ 1000000) :
    Calls Tryz.prog 36 #[.pointer (some ⟨b, 0, none⟩), .agg (Of.c o).toArray] w fun e w' => ∃ pr : Option Addr × Nat, e = .returned (.int .i64 (putE B o)) ∧ Upd w w' (B.h b ad c) ((putB B o).h b pr.1 pr.2) ∧ RowT w w' (ad, c) pr B.l (putB B o).l :=
  lput_any b B.chan B.cl B.next ad B.l c w i.len (h.get i.h) (row_elO h i.h i.r) o ho hs (fun x hx => (hf.l x hx).face) hf.next
theorem bk_take (h : Hp w0 S H w) (i : BkIn H B b ad c) (hf : B.Fit) (t : Tk) (ht : t.Fit) (h1 : t.chan.size ≤ 40000) (h2 : t.commit.size ≤ 40000) (h3 : t.sig.size ≤ 1000000) :
    Calls Tryz.prog 32 #[.pointer (some ⟨b, 0, none⟩), .agg (Tk.c t).toArray] w fun e w' => ∃ pr : Option Addr × Nat, e = .returned (.tuple #[.int .u64 (takeV B t), .agg (Wn.c (takeW B t)).toArray, .bool (takeI B t), .int .i64 (takeE B t)]) ∧ Upd w w' (B.h b ad c) ((takeB B t).h b pr.1 pr.2) ∧ RowT w w' (ad, c) pr B.l (takeB B t).l :=
  ltake_any b B.chan B.cl B.next ad B.l c w i.len (h.get i.h) (row_elO h i.h i.r) t ht h1 h2 h3 hf.l
theorem bk_next (h : Hp w0 S H w) (i : BkIn H B b ad c) : Calls Tryz.prog 13 #[.pointer (some ⟨b, 0, none⟩)] w fun e w' => e = .returned (.int .u64 B.next) ∧ Ch [] w w' :=
  lnext_any b B.next w (CellAt.of_cells (h.get i.h) rfl)
theorem bk_open (h : Hp w0 S H w) (i : BkIn H B b ad c) : Calls Tryz.prog 14 #[.pointer (some ⟨b, 0, none⟩)] w fun e w' => e = .returned (.int .u64 (openL B.l)) ∧ Ch [] w w' :=
  lopen_any b ad B.l c w i.len (i.cell h) (i.el h)
theorem bk_offers (h : Hp w0 S H w) (i : BkIn H B b ad c) : Calls Tryz.prog 12 #[.pointer (some ⟨b, 0, none⟩)] w fun e w' => ∃ b', e = .returned (.slice (some ⟨b', 0, none⟩) B.l.length B.l.length) ∧ Fresh w w' (Bk.r B.l (some ⟨b', 0, none⟩) B.l.length) :=
  loffers_any b ad B.l c w i.len (i.cell h) (i.el h)
end

theorem flat_next {α : Type} {c : α → List Value} {l : List α} {i : Nat} (h : i < l.length) : (l.take (i + 1)).flatMap c = (l.take i).flatMap c ++ c l[i] := by
  rw [List.take_succ_eq_append_getElem h, List.flatMap_append]; simp

theorem lrefs_any (ad : Option Addr) (c : Nat) (l : List Of) (w : World) (hl : l.length ≤ 1000) (hE : ElAt w ad 9 (l.map Of.c)) :
  Calls Tryz.prog 11 #[.slice ad l.length c] w fun e w' => ∃ pr : Option Addr × Nat, e = .returned (.slice pr.1 l.length pr.2) ∧ Fresh w w' (.row pr.1 (l.length) pr.2 55 9 ((l).flatMap Of.c)) := by
 refine calls_of (n := 21) (E := [(0, .slice ad l.length c)]) (W := Hp w [] []) Tryz.func11 rfl rfl (Nat.le_of_ble_eq_true rfl) rfl (Hp.nil _ _) ?_; refine jsr ?_; refine jz ?_; refine jnt ?_; refine jsr ?_; refine jl_m rfl (by decide) rfl (m_buildSlice (size := 9) (by decide) Built.nil) (fun b5 => ?_); refine jz ?_; refine jnt ?_; refine jc_seq ?_; refine jsr ?_; refine jz ?_; refine jnt ?_; refine jc_block ?_; refine jc_loop3 (fun (i : Nat) (au : Option Addr) (cu : Nat) => [(0, .slice ad l.length c), (3, .slice au i cu), (4, .int .i64 (i : Nat))]) (fun (i : Nat) (au : Option Addr) (cu : Nat) => fun w' => i ≤ l.length ∧ Hp w [] [.row au (i) cu 55 9 ((l.take i).flatMap Of.c)] w') (fun (i : Nat) (au : Option Addr) (cu : Nat) => l.length - i) 0 (some ⟨b5, 0, none⟩) 0 ?_ ?_ ?_
 ·exact ⟨rfl, rfl, rfl, trivial⟩
 ·exact fun _ h => ⟨by omega, h⟩
 ·intro i au cu
  refine jc_and (fun hi => ?_); refine jc_seq ?_; refine jsr ?_; (iterate 2 refine jz ?_); refine jy (y_len_slice rfl) ?_; refine jy (y_lss rfl rfl) ?_; refine jl_prop (fun h9 => ?_) (fun h9 => ?_)
  ·first | (exfalso; omega) | (
    have hlt : i < l.length := by omega
    obtain ⟨bb, oo, ea, hold⟩ := hE.get hlt
    subst ea
    have hnx := flat_next (c := Of.c) hlt
    generalize hxe : l[i]'hlt = o at *
    refine jnt ?_; refine jc_true rfl ?_; refine jc_skip ?_; refine jq_then ?_; refine jc_seq ?_; refine jc_block ?_; refine jc_region ?_; (iterate 3 refine jz ?_); refine jy (y_indexAddr_slice (off := oo + i * 9) rfl rfl (by omega) (by omega) (by omega)) ?_; refine jy (y_loadAgg_old rfl rfl hold (by simp)) ?_; refine jpc (goes_func rfl) (fun w1 hw1 => lref_any o w1) ?_; refine jl_m rfl (by decide) rfl (m_buildSlice (size := 9) (by decide) (Built.agg rfl rfl rfl (by repeat constructor) Built.nil)) (fun b18 => ?_); refine jl_m2 rfl (by decide) rfl (m_append rfl rfl (by first | exact del0 | exact del1 | exact del2 | exact del3 | exact del4) (by first | exact del0 | exact del1 | exact del2 | exact del3 | exact del4) rfl (by omega) (by omega)) (fun a19 c19 => ?_); refine jz ?_; refine jl_nil ?_; refine jq_block ?_; refine jq_then ?_; refine jc_region ?_; refine jz ?_; refine jy (yaf rfl rfl) ?_; refine jz ?_; refine jl_nil ?_; refine jq_round3 (i := i) (j := au) (l := cu) (i + 1) a19 c19 ?_ ?_ ?_
    ·omega
    ·exact ⟨rfl, rfl, lk_int rfl (by omega), trivial⟩
    ·exact fun _ h => ⟨by omega, h.cast (by rw [hnx]; rfl)⟩
    )
  ·first | (exfalso; omega) | (refine jnt ?_; refine jc_false rfl ?_; refine jc_exit ?_; (iterate 2 refine jq_then_exit ?_); refine jq_hit ?_; refine jq_then ?_; refine jsr ?_; (iterate 2 refine jz ?_); refine jnt ?_; refine jc_ret ?_; refine jq_ret1 rfl rfl ?_; exact fun w' hw => (by have e : i = l.length := (by omega); subst e; rw [List.take_length] at hw; exact ⟨(au, cu), rfl, hw.fresh⟩))

theorem eq_rof (m : Nat) (x y : Of) (w : World) : (Op.equalIn (m + 2) 55 (.agg (Of.c x).toArray) (.agg (Of.c y).toArray)).run Tryz.prog w = .ok (decide (x = y)) w := by
  rw [run_equalIn_agg _ _ 55 _ _ (by kernel_rfl) (by kernel_rfl), show (Program.fieldsOf Tryz.prog 55).toList = [((fsOf (Tryz.prog.underlying 55)).getD 0 default), ((fsOf (Tryz.prog.underlying 55)).getD 1 default), ((fsOf (Tryz.prog.underlying 55)).getD 2 default), ((fsOf (Tryz.prog.underlying 55)).getD 3 default), ((fsOf (Tryz.prog.underlying 55)).getD 4 default), ((fsOf (Tryz.prog.underlying 55)).getD 5 default), ((fsOf (Tryz.prog.underlying 55)).getD 6 default), ((fsOf (Tryz.prog.underlying 55)).getD 7 default), ((fsOf (Tryz.prog.underlying 55)).getD 8 default)] from by kernel_rfl]
  refine Eq.trans (eqF_cell (by kernel_rfl) (T := 9) (by kernel_rfl) (off := 0) (by kernel_rfl) rfl rfl (equalIn_str (m) _ _ w) (eqF_cell (by kernel_rfl) (T := 30) (by kernel_rfl) (off := 1) (by kernel_rfl) rfl rfl (equalIn_int (m) _ _ w) (eqF_cell (by kernel_rfl) (T := 30) (by kernel_rfl) (off := 2) (by kernel_rfl) rfl rfl (equalIn_int (m) _ _ w) (eqF_cell (by kernel_rfl) (T := 30) (by kernel_rfl) (off := 3) (by kernel_rfl) rfl rfl (equalIn_int (m) _ _ w) (eqF_cell (by kernel_rfl) (T := 30) (by kernel_rfl) (off := 4) (by kernel_rfl) rfl rfl (equalIn_int (m) _ _ w) (eqF_cell (by kernel_rfl) (T := 9) (by kernel_rfl) (off := 5) (by kernel_rfl) rfl rfl (equalIn_str (m) _ _ w) (eqF_cell (by kernel_rfl) (T := 9) (by kernel_rfl) (off := 6) (by kernel_rfl) rfl rfl (equalIn_str (m) _ _ w) (eqF_cell (by kernel_rfl) (T := 30) (by kernel_rfl) (off := 7) (by kernel_rfl) rfl rfl (equalIn_int (m) _ _ w) (eqF_cell (by kernel_rfl) (T := 4) (by kernel_rfl) (off := 8) (by kernel_rfl) rfl rfl (equalIn_bool' (m) _ _ w) eqF_nil))))))))) ?_
  congr 1
  rw [Bool.eq_iff_iff]
  cases x; cases y
  simp
theorem eq_of (m : Nat) (x y : Of) (w : World) : (Op.equalIn (m + 2) 32 (.agg (Of.c x).toArray) (.agg (Of.c y).toArray)).run Tryz.prog w = .ok (decide (x = y)) w := by
  rw [run_equalIn_agg _ _ 32 _ _ (by kernel_rfl) (by kernel_rfl), show (Program.fieldsOf Tryz.prog 32).toList = [((fsOf (Tryz.prog.underlying 32)).getD 0 default), ((fsOf (Tryz.prog.underlying 32)).getD 1 default), ((fsOf (Tryz.prog.underlying 32)).getD 2 default), ((fsOf (Tryz.prog.underlying 32)).getD 3 default), ((fsOf (Tryz.prog.underlying 32)).getD 4 default), ((fsOf (Tryz.prog.underlying 32)).getD 5 default), ((fsOf (Tryz.prog.underlying 32)).getD 6 default), ((fsOf (Tryz.prog.underlying 32)).getD 7 default), ((fsOf (Tryz.prog.underlying 32)).getD 8 default)] from by kernel_rfl]
  refine Eq.trans (eqF_cell (by kernel_rfl) (T := 9) (by kernel_rfl) (off := 0) (by kernel_rfl) rfl rfl (equalIn_str (m) _ _ w) (eqF_cell (by kernel_rfl) (T := 30) (by kernel_rfl) (off := 1) (by kernel_rfl) rfl rfl (equalIn_int (m) _ _ w) (eqF_cell (by kernel_rfl) (T := 30) (by kernel_rfl) (off := 2) (by kernel_rfl) rfl rfl (equalIn_int (m) _ _ w) (eqF_cell (by kernel_rfl) (T := 30) (by kernel_rfl) (off := 3) (by kernel_rfl) rfl rfl (equalIn_int (m) _ _ w) (eqF_cell (by kernel_rfl) (T := 30) (by kernel_rfl) (off := 4) (by kernel_rfl) rfl rfl (equalIn_int (m) _ _ w) (eqF_cell (by kernel_rfl) (T := 9) (by kernel_rfl) (off := 5) (by kernel_rfl) rfl rfl (equalIn_str (m) _ _ w) (eqF_cell (by kernel_rfl) (T := 9) (by kernel_rfl) (off := 6) (by kernel_rfl) rfl rfl (equalIn_str (m) _ _ w) (eqF_cell (by kernel_rfl) (T := 30) (by kernel_rfl) (off := 7) (by kernel_rfl) rfl rfl (equalIn_int (m) _ _ w) (eqF_cell (by kernel_rfl) (T := 4) (by kernel_rfl) (off := 8) (by kernel_rfl) rfl rfl (equalIn_bool' (m) _ _ w) eqF_nil))))))))) ?_
  congr 1
  rw [Bool.eq_iff_iff]
  cases x; cases y
  simp
end Go.Proofs.YtghomncegjamfaaGreat

namespace Go.Proofs.YtghomncegjamfaaGreat
open Go.RowKit

/-! ### A ticket to an offer -/
def tkSig (o : Of) (c : Int) (s : ByteArray) : Tk := ⟨o.chan, o.serial, o.face, o.wins, o.many, o.commit, c, s⟩
theorem tkSig_text (o : Of) (c : Int) (s : ByteArray) : tkText (tkSig o c s) = tkText (tkOf o c) := rfl
theorem take_at {b : Bk} {i : Nat} {c : Int} {s : ByteArray} (h : Rising b.l) (hi : i < b.l.length) : takeE b (tkSig b.l[i] c s) = (if b.l[i].taken = true then 7 else if signedB b.cl (tkSig b.l[i] c s) = true then 0 else 10) ∧ takeO b (tkSig b.l[i] c s) = b.l[i] := by
  have hf : findL b.l (tkSig b.l[i] c s).serial = i := find_at h hi
  have ho : takeO b (tkSig b.l[i] c s) = b.l[i] := by unfold takeO; rw [hf, off_at hi]
  refine ⟨?_, ho⟩
  unfold takeE
  rw [hf, if_neg (by omega), off_at hi]
  show (if tkSig b.l[i] c s ≠ tkSig b.l[i] c s then (13 : Int) else _) = _
  rw [if_neg (by simp)]
theorem take_set {b : Bk} {i : Nat} {c : Int} {s : ByteArray} (h : Rising b.l) (hi : i < b.l.length) (hz : takeE b (tkSig b.l[i] c s) = 0) : takeB b (tkSig b.l[i] c s) = { b with l := b.l.set i { b.l[i] with taken := true } } := by
  have hf : findL b.l (tkSig b.l[i] c s).serial = i := find_at h hi
  unfold takeB
  rw [if_pos hz, hf, (take_at h hi).2, Int.toNat_natCast]
theorem signed_key (seed : ByteArray) {h i : Nat} (hh : h ≤ 4) (hi : i < 2 ^ h) {o : Of} {c : Int} (hc : o.chan.size = 16) (hm : o.commit.size = 16) (hs : (signK seed h i (tkText (tkOf o c))).size ≤ 400) : signedB (rootK seed h) (tkSig o c (signK seed h i (tkText (tkOf o c)))) = true := by
  rw [signedB_may (tkMay_iff.2 ⟨hc, hm, hs⟩)]
  exact verK_sign seed hh hi (tkText (tkOf o c))
theorem signed_none {cl : ByteArray} {o : Of} {c : Int} : signedB cl (tkSig o c ⟨#[]⟩) = false := by
  have hv : verK cl (tkText (tkSig o c ⟨#[]⟩)) (tkSig o c ⟨#[]⟩).sig = false := ver_no fun h => absurd h.1 (by show ¬ leafE ⟨#[]⟩ = 0; decide)
  unfold signedB
  rw [hv, Bool.and_false]

/-! ### LotteryOnce -/
structure Onc (ch : ByteArray) (M : Int) (b : Bk) (tk : List Int) : Prop where
  ok : Ok ch M b
  flag : ∀ o ∈ b.l, (o.taken = true ↔ o.serial ∈ tk)
  old : ∀ s ∈ tk, s < b.next
theorem onc_new (ch cl : ByteArray) (M : Int) : Onc ch M ⟨ch, cl, 1, []⟩ [] := ⟨ok_new ch cl M, fun o ho => (by cases ho), fun s hs => (by cases hs)⟩
theorem Onc.gone {ch : ByteArray} {M : Int} {b : Bk} {tk : List Int} (h : Onc ch M b tk) (s : Int) : Onc ch M (goneB b s) tk := by
  refine ⟨h.ok.gone s, fun o ho => ?_, fun x hx => by rw [gone_next]; exact h.old x hx⟩
  refine h.flag o ?_
  unfold goneB at ho
  split at ho
  · exact ho
  · exact (List.eraseIdx_sublist _ _).subset ho
theorem Onc.make {ch : ByteArray} {M : Int} {b : Bk} {tk : List Int} (h : Onc ch M b tk) {face wins many raw : Int} {salt : ByteArray} (hf : 0 ≤ face ∧ face ≤ M) (hm : 1 ≤ many ∧ wins ≤ many) (hn : b.next < 9223372036854775807) : Onc ch M (makeB b face wins many salt raw) tk := by
  refine ⟨h.ok.make hf hm hn, fun o ho => ?_, fun x hx => ?_⟩
  · unfold makeB at ho
    split at ho
    · rcases List.mem_append.1 ho with ho | ho
      · exact h.flag o ho
      · rw [List.mem_singleton.1 ho]
        show (false = true ↔ b.next ∈ tk)
        exact ⟨fun e => absurd e (by decide), fun e => absurd (h.old _ e) (Int.lt_irrefl _)⟩
    · exact h.flag o ho
  · have := h.old x hx
    have h1 := h.ok.one
    unfold makeB
    split
    · show x < (b.next + 1) % 18446744073709551616; omega
    · exact this
theorem Onc.take {ch : ByteArray} {M : Int} {b : Bk} {tk : List Int} (h : Onc ch M b tk) {i : Nat} (hi : i < b.l.length) : Onc ch M { b with l := b.l.set i { b.l[i] with taken := true } } (tk ++ [b.l[i].serial]) := by
  have hmem : ∀ o ∈ b.l.set i { b.l[i] with taken := true }, ∃ j, ∃ hj : j < b.l.length, o.serial = b.l[j].serial ∧ (o = { b.l[i] with taken := true } ∧ j = i ∨ o = b.l[j] ∧ j ≠ i) := fun o ho => by
    obtain ⟨j, hj, e⟩ := List.mem_iff_getElem.1 ho
    rw [List.length_set] at hj
    rw [List.getElem_set] at e
    refine ⟨j, hj, ?_⟩
    by_cases q : i = j
    · subst q; rw [if_pos rfl] at e; exact ⟨by rw [← e], .inl ⟨e.symm, rfl⟩⟩
    · rw [if_neg q] at e; exact ⟨by rw [← e], .inr ⟨e.symm, fun z => q z.symm⟩⟩
  have hgood : ∀ o ∈ b.l.set i { b.l[i] with taken := true }, Good ch M o := fun o ho => by
    obtain ⟨j, hj, _, e | e⟩ := hmem o ho
    · have := h.ok.good _ (List.getElem_mem hi)
      rw [e.1]
      exact ⟨this.chan, this.low, this.high, this.face, this.salt, this.nom, this.wins, this.com⟩
    · rw [e.1]; exact h.ok.good _ (List.getElem_mem hj)
  have hrise : Rising (b.l.set i { b.l[i] with taken := true }) := by
    unfold Rising
    rw [List.pairwise_iff_getElem]
    intro j k hj hk hjk
    rw [List.length_set] at hj hk
    have hs : ∀ m (hm : m < b.l.length), ((b.l.set i { b.l[i] with taken := true })[m]'(by rw [List.length_set]; exact hm)).serial = b.l[m].serial := fun m hm => by
      rw [List.getElem_set]
      split
      · rename_i e; subst e; rfl
      · rfl
    rw [hs j hj, hs k hk]
    exact h.ok.rising.get hjk hk
  refine ⟨⟨h.ok.chan, hrise, hgood, fun o ho => ?_, h.ok.one, by show (b.l.set _ _).length ≤ 8; rw [List.length_set]; exact h.ok.len⟩, fun o ho => ?_, fun s hs => ?_⟩
  · obtain ⟨j, hj, e, _⟩ := hmem o ho
    rw [e]; exact h.ok.next _ (List.getElem_mem hj)
  · obtain ⟨j, hj, es, e | e⟩ := hmem o ho
    · rw [e.1]; simp
    · rw [e.1, List.mem_append, List.mem_singleton, h.flag _ (List.getElem_mem hj)]
      have hne : b.l[j].serial ≠ b.l[i].serial := by
        rcases Nat.lt_or_gt_of_ne e.2 with q | q
        · have := h.ok.rising.get q hi; omega
        · have := h.ok.rising.get q hj; omega
      exact ⟨.inl, fun q => q.resolve_right hne⟩
  · rcases List.mem_append.1 hs with hs | hs
    · exact h.old s hs
    · rw [List.mem_singleton.1 hs]; exact h.ok.next _ (List.getElem_mem hi)
theorem nom_one (f : Int) : nomE f 1 1 = 0 ∧ nomV f 1 1 = f := by
  have := nom_pos (f := f) (w := 1) (m := 1) (by decide) (by rw [Int.mul_one, Int.emod_one]; decide)
  exact ⟨this.2, by rw [this.1, Int.mul_one, Int.ediv_one]⟩
theorem fair_one {raw : Int} (h : raw ≤ 18446744073709551615) : fairE raw 1 = 0 ∧ fairV raw 1 = 0 := by
  have ht : topV 1 = 18446744073709551615 := by decide
  have := fair_pos (raw := raw) (m := 1) (by decide) (by omega)
  exact ⟨this.2, by rw [this.1, Int.emod_one]⟩
/-- An offer that one of one wins is made as long as there is room. -/
theorem make_one {ch : ByteArray} {M : Int} {b : Bk} (h : Ok ch M b) (hM : 0 ≤ M ∧ M ≤ 1000000000) {face raw : Int} {salt : ByteArray} (hf : 0 < face ∧ face ≤ M) (hs : salt.size ≤ 32) (hr : raw ≤ 18446744073709551615) : makeE b face 1 1 salt raw = if 8 ≤ b.l.length then 9 else 0 := by
  unfold makeE
  have h1 : offE face 1 1 salt raw = 0 := by
    unfold offE
    rw [if_neg (by rw [(nom_one face).1]; omega), if_neg (by rw [(nom_one face).1, (fair_one hr).1]; omega)]
  rw [if_pos h1]
  exact room_ok h hM (by omega)

/-! ### LotteryFamily -/
theorem fam_make {ch cl : ByteArray} {k wins many : Int} {r : Nat} {salt : ByteArray} (hc : ch.size = 16) (hs : salt.size ≤ 32) (hm : 1 ≤ many ∧ many ≤ 12) (hw : 0 ≤ wins ∧ wins ≤ many) (hk : 1 ≤ k ∧ k ≤ 1000) (hr : (r : Int) < many) :
    makeE ⟨ch, cl, 1, []⟩ (many * k) wins many salt r = 0 ∧ newO ⟨ch, cl, 1, []⟩ (many * k) wins many salt r = ⟨ch, 1, many * k, wins, many, commitS salt r, salt, r, false⟩ ∧ nomE (many * k) wins many = 0 ∧ nomV (many * k) wins many = k * wins := by
  have hn0 : ¬ 0 < many * k * wins % many := by rw [Int.mul_assoc, Int.mul_emod_right]; decide
  have hn := nom_pos (f := many * k) (w := wins) (m := many) ⟨hm.1, by omega, hw.2⟩ hn0
  have ht : ¬ topV many < (r : Int) := by
    rw [topV_pos ⟨hm.1, by omega⟩]
    have := Int.emod_lt_of_pos 18446744073709551616 (show 0 < many by omega)
    omega
  have hf := fair_pos (raw := (r : Int)) (m := many) ⟨hm.1, by omega⟩ ht
  have hfv : fairV r many = r := by rw [hf.1, Int.emod_eq_of_lt (by omega) hr]
  have hk1 : 1 ≤ many * k := by have := Int.mul_le_mul hm.1 hk.1 (by decide) (by omega); omega
  have hk2 : many * k ≤ 12 * 1000 := Int.mul_le_mul hm.2 hk.2 (by omega) (by decide)
  refine ⟨?_, ?_, hn.2, ?_⟩
  · unfold makeE
    have h1 : offE (many * k) wins many salt r = 0 := by
      unfold offE
      rw [if_neg (by rw [hn.2]; omega), if_neg (by rw [hn.2, hf.2]; omega)]
    rw [if_pos h1]
    show roomE [] (many * k) = 0
    unfold roomE
    rw [if_neg (by decide)]
    show addE 0 (many * k) = 0
    unfold addE
    rw [if_neg (by omega)]
  · unfold newO; rw [hfv]
  · rw [hn.1, Int.mul_assoc, Int.mul_ediv_cancel_left _ (by omega)]
theorem winsB_cnt {r c w m : Int} (hm : 1 ≤ m ∧ m ≤ 4294967296) (hw : w ≤ m) (hr : r < m) : winsB r c w m = decide ((r + c % m) % m < w) := (wins_pos ⟨hm.1, hm.2, hw, hr⟩).1
end Go.Proofs.YtghomncegjamfaaGreat

namespace Go.Proofs.YtghomncegjamfaaGreat
open Go.RowKit
set_option maxRecDepth 100000
set_option maxHeartbeats 2000000
set_option linter.unusedVariables false
set_option linter.unusedSimpArgs false
attribute [local irreducible] Yields Makes Writes
theorem take_both {α : Type} {l m : List α} {i : Nat} (h : i < l.length) (hm : i < m.length) (ht : l.take i = m.take i) (he : l[i] = m[i]) : l.take (i + 1) = m.take (i + 1) := by
  rw [List.take_succ_eq_append_getElem h, List.take_succ_eq_append_getElem hm, ht, he]
theorem get_ne {α : Type} {l m : List α} {i : Nat} (h : i < l.length) (hm : i < m.length) {x y : α} (hx : l[i] = x) (hy : m[i] = y) (he : x ≠ y) : l ≠ m := by
  rintro rfl
  exact he (hx.symm.trans hy)
theorem len_ne {α : Type} {l m : List α} (h : l.length ≠ m.length) : l ≠ m := fun e => h (by rw [e])

theorem lsame_any (ad aq : Option Addr) (c d : Nat) (l m : List Of) (w : World) (hl : l.length ≤ 1000) (hm : m.length ≤ 1000) (hE : ElAt w ad 9 (l.map Of.c)) (hQ : ElAt w aq 9 (m.map Of.c)) :
  Calls Tryz.prog 10 #[.slice ad l.length c, .slice aq m.length d] w fun e w' => e = .returned (.bool (decide (l = m))) ∧ Ch [] w w' := by
 refine calls_of (n := 26) (E := [(0, .slice ad l.length c), (1, .slice aq m.length d)]) (W := Hp w [] []) Tryz.func10 rfl rfl (Nat.le_of_ble_eq_true rfl) rfl (Hp.nil _ _) ?_; refine jsr ?_; refine jz ?_; refine jnt ?_; refine jc_seq ?_; refine jsr ?_; refine jz ?_; refine jy (y_len_slice rfl) ?_; refine jz ?_; refine jy (y_len_slice rfl) ?_; refine jy (y_neq rfl rfl) ?_; refine jl_prop (fun h10 => ?_) (fun h10 => ?_)
 ·first | (exfalso; omega) | (refine jnt ?_; refine jc_true rfl ?_; refine jsr ?_; refine jz ?_; refine jnt ?_; refine jc_ret ?_; refine jq_then_ret ?_; refine jq_ret1 rfl rfl ?_; exact fun _ hw => ⟨congrArg (fun b => Ending.returned (Value.bool b)) ((decide_eq_false (len_ne (by omega))).symm), hw.ch⟩)
 ·first | (exfalso; omega) | (
   refine jnt ?_; refine jc_false rfl ?_; refine jc_skip ?_; refine jq_then ?_; refine jc_seq ?_; refine jsr ?_; refine jz ?_; refine jnt ?_; refine jc_block ?_; refine jc_loop (fun (i : Nat) => [(0, .slice ad l.length c), (1, .slice aq m.length d), (5, .int .i64 (i : Nat))]) (fun (i : Nat) => fun w' => (i ≤ l.length ∧ l.take i = m.take i) ∧ Hp w [] [] w') (fun (i : Nat) => l.length - i) 0 ?_ ?_ ?_
   ·exact ⟨rfl, rfl, rfl, trivial⟩
   ·exact fun _ h => ⟨⟨by omega, rfl⟩, h⟩
   ·intro i
    refine jc_and (fun hi => ?_); refine jc_seq ?_; refine jsr ?_; (iterate 2 refine jz ?_); refine jy (y_len_slice rfl) ?_; refine jy (y_lss rfl rfl) ?_; refine jl_prop (fun h14 => ?_) (fun h14 => ?_)
    ·first | (exfalso; omega) | (
      have hlt : i < l.length := by omega
      have hlq : i < m.length := by omega
      obtain ⟨bb, oo, ea, hold⟩ := hE.get hlt
      obtain ⟨bq, oq, eq, holq⟩ := hQ.get hlq
      subst ea
      subst eq
      generalize hxe : l[i]'hlt = x at *
      generalize hye : m[i]'hlq = y at *
      refine jnt ?_; refine jc_true rfl ?_; refine jc_skip ?_; refine jq_then ?_; refine jc_seq ?_; refine jc_block ?_; refine jc_seq ?_; refine jc_draw (by kernel_rfl) (fun _ h => h.drew) ?_; (iterate 2 refine juz ?_); refine juy (y_indexAddr_slice (off := oo + i * 9) rfl rfl (by omega) (by omega) (by omega)) ?_; refine juy (y_loadAgg_old rfl rfl hold (by simp)) ?_; (iterate 2 refine juz ?_); refine juy (y_indexAddr_slice (off := oq + i * 9) rfl rfl (by omega) (by omega) (by omega)) ?_; refine juy (y_loadAgg_old rfl rfl holq (by simp)) ?_; refine juy (y_neq_agg rfl rfl (by kernel_rfl) (fun w => eq_rof 9998 x y w)) ?_; refine ju_bool (fun h25 => ?_) (fun h25 => ?_)
      ·skip
       refine ju_nil ?_; refine jq_then ?_; refine jc_true rfl ?_; refine jsr ?_; refine jz ?_; refine jnt ?_; refine jc_ret ?_; refine jq_block_ret ?_; (iterate 2 refine jq_then_ret ?_); refine jq_block_ret ?_; refine jq_then_ret ?_; refine jq_ret1 rfl rfl ?_; exact fun _ hw => ⟨congrArg (fun b => Ending.returned (Value.bool b)) ((decide_eq_false (get_ne hlt hlq hxe hye (by first | assumption | simp_all))).symm), hw.ch⟩
      ·skip
       refine ju_nil ?_; refine jq_then ?_; refine jc_false rfl ?_; refine jc_skip ?_; refine jq_block ?_; refine jq_then ?_; refine jc_region ?_; refine jz ?_; refine jy (yaf rfl rfl) ?_; refine jz ?_; refine jl_nil ?_; refine jq_round (i := i) (i + 1) ?_ ?_ ?_
       ·omega
       ·exact ⟨rfl, rfl, lk_int rfl (by omega), trivial⟩
       ·exact fun _ h => ⟨⟨by omega, take_both hlt hlq hi.2 (by rw [hxe, hye]; first | assumption | simp_all)⟩, h⟩
      )
    ·first | (exfalso; omega) | (refine jnt ?_; refine jc_false rfl ?_; refine jc_exit ?_; (iterate 2 refine jq_then_exit ?_); refine jq_hit ?_; refine jq_then ?_; refine jsr ?_; refine jz ?_; refine jnt ?_; refine jc_ret ?_; refine jq_ret1 rfl rfl ?_; exact fun _ hw => ⟨congrArg (fun b => Ending.returned (Value.bool b)) ((decide_eq_true (by have h1 := hi.2; rwa [List.take_of_length_le (by omega), List.take_of_length_le (by omega)] at h1)).symm), hw.ch⟩)
   )


/-! ### The fixed case -/
def strCl : ByteArray := ⟨#[99, 108, 105, 101, 110, 116]⟩
def strX : ByteArray := ⟨#[120]⟩
def fK : ByteArray := rootK strCl 1
def fO : Of := ⟨strCh, 1, 30, 2, 10, commitS strSalt 7, strSalt, 7, false⟩
def fO' : Of := ⟨strCh, 1, 30, 2, 10, commitS strSalt 7, strSalt, 7, true⟩
def fB0 : Bk := ⟨strCh, fK, 1, []⟩
def fB1 : Bk := ⟨strCh, fK, 2, [fO]⟩
def fB2 : Bk := ⟨strCh, fK, 2, [fO']⟩
def fB3 : Bk := ⟨strCh, fK, 2, []⟩
def fT0 : Tk := tkOf fO 4
def fSig : ByteArray := signK strCl 1 0 (tkText fT0)
def fT1 : Tk := ⟨strCh, 1, 30, 2, 10, commitS strSalt 7, 4, fSig⟩
def fW : Wn := ⟨fT1, strSalt, 7⟩
attribute [local irreducible] commitS signK rootK
theorem fsig_size : fSig.size ≤ 400 := by unfold fSig; rw [signK_size strCl (h := 1) (i := 0) (by decide)]; decide
theorem f_make1 : makeE fB0 30 2 10 strSalt 17 = 0 ∧ makeO fB0 30 2 10 strSalt 17 = fO ∧ makeB fB0 30 2 10 strSalt 17 = fB1 := by
  have h : makeE fB0 30 2 10 strSalt 17 = 0 := by decide
  have h2 : newO fB0 30 2 10 strSalt 17 = fO := by
    unfold newO; rw [show fairV 17 10 = 7 by decide]; rfl
  refine ⟨h, ?_, ?_⟩
  · unfold makeO; rw [if_pos h, h2]
  · unfold makeB; rw [if_pos h, h2]; rfl
theorem f_make2 : makeE fB1 30 2 7 strSalt 17 = 4 ∧ makeO fB1 30 2 7 strSalt 17 = of0 ∧ makeB fB1 30 2 7 strSalt 17 = fB1 := by
  have h : makeE fB1 30 2 7 strSalt 17 = 4 := by
    have h1 : offE 30 2 7 strSalt 17 = 4 := by decide
    unfold makeE; rw [h1, if_neg (by decide)]
  exact ⟨h, if_neg (by rw [h]; decide), if_neg (by rw [h]; decide)⟩
theorem f_make3 : makeE fB1 30 8 7 strSalt 17 = 1 ∧ makeO fB1 30 8 7 strSalt 17 = of0 ∧ makeB fB1 30 8 7 strSalt 17 = fB1 := by
  have h : makeE fB1 30 8 7 strSalt 17 = 1 := by
    have h1 : offE 30 8 7 strSalt 17 = 1 := by decide
    unfold makeE; rw [h1, if_neg (by decide)]
  exact ⟨h, if_neg (by rw [h]; decide), if_neg (by rw [h]; decide)⟩
theorem f_rise (o : Of) : Rising [o] := List.pairwise_singleton _ _
theorem f_take0 : takeE fB1 fT0 = 10 := by
  have h := (take_at (b := fB1) (i := 0) (c := 4) (s := ⟨#[]⟩) (f_rise fO) (by decide)).1
  rw [show tkSig (fB1.l[0]'(by decide)) 4 ⟨#[]⟩ = fT0 from rfl, if_neg (by show ¬ false = true; decide), if_neg (by rw [show signedB fB1.cl fT0 = false from signed_none (cl := fK) (o := fO) (c := 4)]; decide)] at h
  exact h
theorem f_signed : signedB fK fT1 = true := signed_key strCl (h := 1) (i := 0) (by decide) (by decide) (o := fO) (c := 4) (by decide) (commitS_size _ _) fsig_size
theorem f_take1 : takeE fB1 fT1 = 0 := by
  have h := (take_at (b := fB1) (i := 0) (c := 4) (s := fSig) (f_rise fO) (by decide)).1
  rw [show tkSig (fB1.l[0]'(by decide)) 4 fSig = fT1 from rfl, if_neg (by show ¬ false = true; decide), if_pos (by exact f_signed)] at h
  exact h
theorem f_take2 : takeE fB2 fT1 = 7 := by
  have h := (take_at (b := fB2) (i := 0) (c := 4) (s := fSig) (f_rise fO') (by decide)).1
  rw [show tkSig (fB2.l[0]'(by decide)) 4 fSig = fT1 from rfl, if_pos (by rfl)] at h
  exact h
theorem f_take3 : takeE fB3 fT1 = 6 := by
  have h : findL fB3.l fT1.serial = -1 := rfl
  unfold takeE; rw [h, if_pos (by decide)]
theorem f_may : mayO fB3 fO = true := by
  refine decide_eq_true ⟨rfl, by decide, by decide, by decide, by decide, by decide, by decide, rfl⟩
theorem f_put1 : putE fB3 fO = 0 := by
  unfold putE; rw [if_pos f_may]; decide
theorem f_put2 : putE fB1 fO = 7 := by
  have h : mayO fB1 fO = true := decide_eq_true ⟨rfl, by decide, by decide, by decide, by decide, by decide, by decide, rfl⟩
  unfold putE; rw [if_pos h]; decide
theorem f_won : wonE fK fW = 0 ∧ wonV fK fW = 30 := by
  have h := won_ok (cl := fK) (x := fW) ⟨tkMay_iff.2 ⟨by decide, commitS_size _ _, fsig_size⟩, by decide⟩ f_signed (decide_eq_true rfl) (by decide)
  exact ⟨h.2, h.1⟩

end Go.Proofs.YtghomncegjamfaaGreat
