/- The calculus, part five: stores; a region that draws its order and ends in steps that are forced. -/
import Derived.Test.YtghomncegjamfaaGreatJd
import Derived.StillTail
namespace Go.Proofs.YtghomncegjamfaaGreat
open Go.RowKit

theorem cells_one {v : Value} (h : v.oneCell' = true) : v.cells = #[v] := by
  cases v <;> first | rfl | simp [Value.oneCell'] at h

theorem run_store_cell {P : Program} {w : World} {b off : Nat} {vs : List Value} {v : Value} (h : Cells w b vs) (ho : off < vs.length) (hv : v.oneCell' = true) :
    (store ⟨b, off, none⟩ v).run P w = .ok () (w.setCell ⟨b, off, none⟩ v) := by
  rw [run_store P w _ v _ hv, h.cell off, List.getElem?_eq_getElem ho]
  simp [h.free ho]

theorem Ch.setCell (w : World) (b off : Nat) (v : Value) : Ch [b] w (w.setCell ⟨b, off, none⟩ v) :=
  ⟨rfl, rfl, rfl, by simp [World.setCell], fun k _ hS => by
    have : b ≠ k := fun e => hS (by simp [e])
    simp [World.setCell, Array.getElem?_modify, this]⟩

theorem run_storeCells {P : Program} {b o : Nat} : ∀ (us : List Value) (i : Nat) (w : World) (vs : List Value), Cells w b vs → o + i + us.length ≤ vs.length → us.all Value.oneCell' = true →
    ∃ w', (storeCells ⟨b, o, none⟩ us i).run P w = .ok () w' ∧ Cells w' b (vs.take (o + i) ++ us ++ vs.drop (o + i + us.length)) ∧ Ch [b] w w'
  | [], i, w, vs, h, hl, _ => ⟨w, rfl, by simpa using h, .refl _ _⟩
  | u :: us, i, w, vs, h, hl, h1 => by
    simp only [List.length_cons] at hl
    simp only [List.all_cons, Bool.and_eq_true] at h1
    obtain ⟨w', hr, hc, hch⟩ := run_storeCells (P := P) (b := b) (o := o) us (i + 1) (w.setCell ⟨b, o + i, none⟩ u) (vs.set (o + i) u) (h.set _ _) (by simp; omega) h1.2
    refine ⟨w', ?_, ?_, (Ch.setCell w b (o + i) u).trans hch (fun x hx => .inl hx)⟩
    · unfold storeCells
      rw [Sem.run_bind, addr_add, run_store_cell h (by omega) h1.1]
      exact hr
    · have he : (vs.set (o + i) u).take (o + (i + 1)) ++ us ++ (vs.set (o + i) u).drop (o + (i + 1) + us.length) = vs.take (o + i) ++ (u :: us) ++ vs.drop (o + i + (us.length + 1)) := by
        rw [List.drop_set_of_lt (by omega), show o + (i + 1) = (o + i) + 1 by omega, List.take_set, List.take_succ_eq_append_getElem (by omega)]
        rw [List.set_append_right _ _ (by simp; omega)]
        simp [show min (o + i) vs.length = o + i by omega, show o + i + 1 + us.length = o + i + (us.length + 1) by omega]
      rw [he] at hc
      exact hc

section
variable {P : Program} {n : Nat} {E : Env} {W : World → Prop} {Q : Exit → Act → World → Prop}
variable {d : Option Tmp} {ty T T' : Nat} {pos : String} {af : Array Edge} {g : Option (Nat × Bool)} {x y z : Operand} {v u : Value} {k k' : IntKind} {p q : Int} {s t : ByteArray}
variable {w0 : World} {S : List Nat} {H H' H1 H2 : List HA} {b off : Nat} {vs us ws : List Value}

theorem w_store [hC : TCell P T] (hx : ev E x = some (.pointer (some ⟨b, off, none⟩))) (hy : ev E y = some v) (hv : v.oneCell' = true) (ho : off < vs.length) (r : Rep (.cells b vs) (.cells b (vs.set off v)) H H') :
    Writes P n E (Hp w0 S H) ⟨d, .store T x y, ty, pos, af, g⟩ (Hp w0 S H') := fun a w ha hw => by
  have hc : Cells w b vs := hw.get r.mem
  refine ⟨w.setCell ⟨b, off, none⟩ v, ?_, hw.upd r (Ch.setCell w b off v) (by simp [HA.foot]) (hc.set off v) (fun k hk => .inl hk)⟩
  have h1 : (storeVar T ⟨b, off, none⟩ v).run P w = .ok () (w.setCell ⟨b, off, none⟩ v) := by
    unfold storeVar
    rw [Sem.run_bind, (hC.h w).2, Result.andThen_ok, cells_one hv]
    dsimp only
    rw [if_neg (by simp)]
    have := run_store_cell (P := P) hc ho hv
    simp only [pure, bind, storeCells, addr_add, Nat.add_zero]
    rw [show (store ⟨b, off, none⟩ v).bind (fun _ => Sem.pure ()) = (store ⟨b, off, none⟩ v) >>= fun _ => pure () from rfl, Sem.run_bind, this]
    rfl
  simp [execOp, ha.ev hx, ha.ev hy, Instr.storeAt, Instr.sureAddr, h1]
theorem w_store_lit [hC : TCell P T] (hx : ev E x = some (.pointer (some ⟨b, off, none⟩))) (hy : ev E y = some v) (hv : v.oneCell' = true) (r : Rep (.cells b vs) (.cells b us) H H') (hp : PutAt off [v] vs us) :
    Writes P n E (Hp w0 S H) ⟨d, .store T x y, ty, pos, af, g⟩ (Hp w0 S H') := by
  have he := hp.eq
  have ho : off < vs.length := by have := he.2; simp at this; omega
  have : us = vs.set off v := by rw [he.1, List.set_eq_take_append_cons_drop, if_pos ho]; simp
  subst this
  exact w_store hx hy hv ho r
theorem w_storeAgg {size : Nat} [hC : TAgg P T size] (hx : ev E x = some (.pointer (some ⟨b, off, none⟩))) (hy : ev E y = some (.agg ws.toArray)) (hl : ws.length = size) (hv : ws.all Value.oneCell' = true) (r : Rep (.cells b vs) (.cells b us) H H') (hp : PutAt off ws vs us) :
    Writes P n E (Hp w0 S H) ⟨d, .store T x y, ty, pos, af, g⟩ (Hp w0 S H') := fun a w ha hw => by
  have hc : Cells w b vs := hw.get r.mem
  have he := hp.eq
  obtain ⟨w', hr, hc', hch⟩ := run_storeCells (P := P) (o := off) ws 0 w vs hc (by simpa using he.2) hv
  refine ⟨w', ?_, hw.upd r hch (by simp [HA.foot]) (by rw [he.1]; simp only [Nat.add_zero] at hc'; exact hc') (fun k hk => .inl hk)⟩
  have h1 : (storeVar T ⟨b, off, none⟩ (.agg ws.toArray)).run P w = .ok () w' := by
    unfold storeVar
    rw [Sem.run_bind, (hC.h w).2, Result.andThen_ok]
    have hne : ¬ ((Value.agg ws.toArray).cells.size ≠ size) := by show ¬ (ws.toArray.size ≠ size); simp [hl]
    rw [if_neg hne]
    exact hr
  simp [execOp, ha.ev hx, ha.ev hy, Instr.storeAt, Instr.sureAddr, h1]
theorem row_put {w : World} {m cap e size : Nat} {xs : List Value} (h : w.ownsRow 0 e size (.slice (some ⟨b, 0, none⟩) m cap) m xs) (ho : off < xs.length) (hv : v.oneCell' = true) :
    (store ⟨b, off, none⟩ v).run P w = .ok () (w.setCell ⟨b, off, none⟩ v) := by
  rw [run_store P w _ v _ hv, row_cell h (List.getElem?_eq_getElem ho)]
  simp [World.ownsRow.frozenAt h off]
theorem w_store_row {m cap e size : Nat} {xs : List Value} [hC : TCell P T] (hx : ev E x = some (.pointer (some ⟨b, off, none⟩))) (hy : ev E y = some v) (hv : v.oneCell' = true) (ho : off < xs.length) (r : Rep (.row (some ⟨b, 0, none⟩) m cap e size xs) (.row (some ⟨b, 0, none⟩) m cap e size (xs.set off v)) H H') :
    Writes P n E (Hp w0 S H) ⟨d, .store T x y, ty, pos, af, g⟩ (Hp w0 S H') := fun a w ha hw => by
  have hc : w.ownsRow 0 e size (.slice (some ⟨b, 0, none⟩) m cap) m xs := hw.get r.mem
  refine ⟨w.setCell ⟨b, off, none⟩ v, ?_, hw.upd r (Ch.setCell w b off v) (by simp [HA.foot]) (World.ownsRow.stored hc off v).1 (fun k hk => .inl hk)⟩
  have h1 : (storeVar T ⟨b, off, none⟩ v).run P w = .ok () (w.setCell ⟨b, off, none⟩ v) := by
    unfold storeVar
    rw [Sem.run_bind, (hC.h w).2, Result.andThen_ok, cells_one hv]
    dsimp only
    rw [if_neg (by simp)]
    have := row_put (P := P) hc ho hv
    simp only [pure, bind, storeCells, addr_add, Nat.add_zero]
    rw [show (store ⟨b, off, none⟩ v).bind (fun _ => Sem.pure ()) = (store ⟨b, off, none⟩ v) >>= fun _ => pure () from rfl, Sem.run_bind, this]
    rfl
  simp [execOp, ha.ev hx, ha.ev hy, Instr.storeAt, Instr.sureAddr, h1]
/-- A struct out of a row. -/
theorem y_loadAgg_row {m cap e size size' : Nat} {xs : List Value} [hC : TAgg P T size] (hx : ev E x = some (.pointer (some ⟨b, off, none⟩))) (hm : HA.row (some ⟨b, 0, none⟩) m cap e size' xs ∈ H) (hl : us.length = size) (hv : ∀ j u, us[j]? = some u → xs[off + j]? = some u) : Yields P n E (Hp w0 S H) ⟨d, .load T x, ty, pos, af, g⟩ (.agg us.toArray) :=
  y_loadAgg_of hx hl fun _ hw j u hj => row_cell (hw.get hm) (hv j u hj)
theorem y_loadAgg_old {size : Nat} [hC : TAgg P T size] (hx : ev E x = some (.pointer (some ⟨b, off, none⟩))) (hl : us.length = size) (hc : ∀ j u, us[j]? = some u → w0.cell? ⟨b, off + j, none⟩ = some u) (hS : b ∉ S) : Yields P n E (Hp w0 S H) ⟨d, .load T x, ty, pos, af, g⟩ (.agg us.toArray) :=
  y_loadAgg_of hx hl fun _ hw j u hj => hw.cell (hc j u hj) hS
end

/-! ### A region that draws its order: quiet steps first, and a tail that waits for all of them, in a forced order -/
section
variable {P : Program} {ops : Array Oper} {md : Region.Mode} {C : World → Prop}
def anyHead (P : Program) (md : Region.Mode) (ops : Array Oper) (C : World → Prop) (n : Nat) (L : Array Bool → Act → Prop) : Nat → Array Bool → Act → Prop
  | 0, listed, a => L listed a
  | f + 1, listed, a => Region.ready md ops listed ≠ [] ∧ ∀ i ∈ Region.ready md ops listed, i < n ∧ qOp P ops C i (anyHead P md ops C n L f (listed.setIfInBounds i true)) a
theorem wpAny_of_anyHead {n m : Nat} {L : Array Bool → Act → Prop} {Q' : Exit → Act → World → Prop} (hL : ∀ listed a w, C w → L listed a → wpAny P md ops Q' m listed a w) :
    ∀ (f : Nat) (listed : Array Bool) (a : Act) (w : World), C w → anyHead P md ops C n L f listed a → wpAny P md ops Q' (f + m) listed a w
  | 0, listed, a, w, hw, h => by rw [Nat.zero_add]; exact hL _ _ _ hw h
  | f + 1, listed, a, w, hw, h => by
    rw [show f + 1 + m = (f + m) + 1 by omega]
    exact ⟨fun h0 => absurd h0 h.1, fun i hi => wpOp_of_qOp hw (fun a' w' hw' h' => wpAny_of_anyHead hL f _ a' w' hw' h') (h.2 i hi).2⟩
theorem anyHead_first {n i : Nat} {oi : Oper} {v : Value} {L : Array Bool → Act → Prop} (hi : ops[i]? = some oi) (hsel : ∀ (j : Nat) (o : Oper) cs b, ops[j]? = some o → o.op ≠ .select cs b)
    (hs : Region.sinkB md ops n = true) (hc : Region.chainB md ops n = true) (hn : n < ops.size) (hin : i < n) (hdone : ∀ listed a, L listed a → ∀ j ∈ Region.ready md ops listed, n ≤ j) :
    ∀ (f : Nat) (listed : Array Bool) (a : Act), HeadInv md ops n listed →
      (∀ j oj, ops[j]? = some oj → j ≠ i → listed.getD j true = false → (∀ e ∈ oj.after, Region.binds md e = true → e.on ≠ i) → oi.apart ops oj = true) →
      i ∈ Region.ready md ops listed → YieldsIn P ops C oi v a →
      anyHead P md ops C n L f (listed.setIfInBounds i true) (a.put oi.dst v) → anyHead P md ops C n L (f + 1) listed a := by
  intro f
  induction f with
  | zero =>
    intro listed a inv _ hr hy H
    have hun := (mem_ready.1 hr).1
    refine ⟨fun h => (by rw [h] at hr; cases hr), fun j hj => ?_⟩
    have hjn : j < n := (Nat.lt_or_ge j n).elim id fun h => absurd hj (tail_waits hs hc hn inv _ i rfl hin hun j h)
    refine ⟨hjn, ?_⟩
    by_cases hji : j = i
    · subst hji; exact hy.qOp hi H
    · have := hdone _ _ H j (ready_mono hj hji)
      omega
  | succ f ih =>
    intro listed a inv hfree hr hy H
    have hun := (mem_ready.1 hr).1
    refine ⟨fun h => (by rw [h] at hr; cases hr), fun j hj => ?_⟩
    have hjn : j < n := (Nat.lt_or_ge j n).elim id fun h => absurd hj (tail_waits hs hc hn inv _ i rfl hin hun j h)
    refine ⟨hjn, ?_⟩
    by_cases hji : j = i
    · subst hji; exact hy.qOp hi H
    · have h1 := (H.2 j (ready_mono hj hji)).2
      obtain ⟨hjun, oj, hoj, hall⟩ := mem_ready.1 hj
      have hnot : ∀ e ∈ oj.after, Region.binds md e = true → e.on ≠ i := fun e he hb heq => by
        have h1 := hall e he hb
        rw [heq, getD_both hun] at h1
        cases h1
      have h2 := qOp_put hoj (hfree j oj hoj hji hjun hnot) (fun cs b => hsel i oi cs b hi) (fun cs b => hsel j oj cs b hoj) hy h1
      have hfree' : ∀ k ok, ops[k]? = some ok → k ≠ i → (listed.setIfInBounds j true).getD k true = false →
          (∀ e ∈ ok.after, Region.binds md e = true → e.on ≠ i) → oi.apart ops ok = true := fun k ok hk hki hun' hno => by
        refine hfree k ok hk hki ?_ hno
        by_cases hjk : j = k
        · subst hjk; exact hjun
        · rw [getD_set_ne true hjk] at hun'; exact hun'
      refine qOp_mono (fun a' h3 => ih (listed.setIfInBounds j true) a' (inv.set hj hjn) hfree' (ready_mono hr (Ne.symm hji)) h3.1 ?_) h2
      rw [Array.setIfInBounds_comm _ _ hji]
      exact h3.2
theorem anyHead_lex {n m : Nat} {Lq : Act → Prop} (hsel : Region.noSelect ops = true) (hs : Region.sinkB md ops n = true) (hc : Region.chainB md ops n = true) (hn : n < ops.size) :
    ∀ (l : List Oper) (k : Nat) (listed : Array Bool) (a : Act), (∀ j, j < l.length → l[j]? = ops[k + j]?) → k + l.length = n → HeadInv md ops n listed →
    Region.lexHead md ops m l.length k listed = true → wpQuiet P ops C Lq l a →
    anyHead P md ops C n (fun listed' a' => Region.seqB md ops m n listed' = true ∧ Lq a') l.length listed a
  | [], k, listed, a, _, hk, _, hB, h => by
    have : k = n := by simpa using hk
    subst this
    exact ⟨by simpa [Region.lexHead] using hB, h⟩
  | o :: l, k, listed, a, hl, hk, inv, hB, h => by
    have h0 : ops[k]? = some o := by simpa using (hl 0 (by simp)).symm
    simp only [List.length_cons, Region.lexHead, Bool.and_eq_true] at hB
    obtain ⟨⟨hr, hf⟩, hB'⟩ := hB
    have hkn : k < n := by simp only [List.length_cons] at hk; omega
    have hr' : k ∈ Region.ready md ops listed := by simpa using hr
    have hst : qOp P ops C k (wpQuiet P ops C Lq l) a := by unfold qOp; simp only [h0]; exact h
    obtain ⟨v, hy, hK⟩ := yieldsIn_of_qOp h0 hst
    exact anyHead_first h0 (Region.noSelect_spec hsel) hs hc hn hkn (fun listed' a' hL => seqB_ready hL.1) l.length listed a inv (Region.free_spec h0 hf) hr' hy
      (anyHead_lex hsel hs hc hn l (k + 1) _ _ (fun j hj => by have := hl (j + 1) (by simp; omega); simpa [Nat.add_assoc, Nat.add_comm 1 j] using this) (by simp only [List.length_cons] at hk; omega) (inv.set hr' hkn) hB' hK)
theorem wp_region_tail {id : Nat} {Q : Exit → Act → World → Prop} {a : Act} {w : World} {l : List Oper} (n : Nat) (hm : P.follows .mixedOrders = true) (hB : Region.lexTailB .any l.toArray n = true) (hC : C { w with drawn := w.drawn + 1 })
    (h : wpQuiet P l.toArray C (fun a' => ∀ w', C w' → wpList P l.toArray Q (l.drop n) a' w') (l.take n) a) : (Code.region id l.toArray true).wp P Q a w := by
  simp only [Region.lexTailB, Bool.and_eq_true, decide_eq_true_eq] at hB
  obtain ⟨⟨⟨⟨hsel, hn⟩, hs⟩, hc⟩, hlex⟩ := hB
  have hn' : n < l.length := by simpa using hn
  have htl : (l.take n).length = n := by simp; omega
  have hdl : (l.drop n).length = l.toArray.size - n := by simp
  have inv0 : HeadInv .any l.toArray n (Array.replicate l.toArray.size false) :=
    ⟨by simp, fun j oj _ hl => (by rw [getD_replicate_false] at hl; cases hl), fun t _ ht => getD_in (by simpa using ht) (getD_replicate_false _ _)⟩
  have H := anyHead_lex (md := .any) (m := l.toArray.size - n) hsel hs hc hn (l.take n) 0 _ a (fun j hj => by
    have hj' : j < n := by rw [htl] at hj; exact hj
    simp [hj']) (by simpa using htl) inv0 (by rw [htl]; exact hlex) h
  refine wp_region_any hm ?_
  have := wpAny_of_anyHead (Q' := Q) (m := l.toArray.size - n) (fun listed a' w' hw' hL => by
    have := wpAny_of_seq (md := .any) (Q' := Q) (l.drop n) n listed a' w' (fun j => by simp [List.getElem?_drop]) (by rw [hdl]; exact hL.1) (hL.2 w' hw')
    rwa [hdl] at this) _ _ _ _ hC H
  rw [htl, show n + (l.toArray.size - n) = l.toArray.size by omega] at this
  exact this
end
/-- The head of such a region. -/
def JT (P : Program) (n : Nat) (Q : Exit → Act → World → Prop) (W : World → Prop) (ops : Array Oper) (tail : List Oper) (rest : List Oper) (E : Env) : Prop := ∀ a, Holds n E a → wpQuiet P ops W (fun a' => ∀ w, W w → wpList P ops Q tail a' w) rest a
section
variable {P : Program} {n : Nat} {E : Env} {W : World → Prop} {Q : Exit → Act → World → Prop} {ops : Array Oper} {rest tail : List Oper} {o : Oper} {d : Nat} {v : Value}
theorem jc_tail [Mixed P] {id : Nat} {l : List Oper} (m : Nat) (hB : Region.lexTailB .any l.toArray m = true) (hC : ∀ w, W w → W w.drew) (h : JT P n Q W l.toArray (l.drop m) (l.take m) E) : JC P n Q W (.region id l.toArray true) E := fun a w ha hw =>
  wp_region_tail (C := W) m Mixed.h hB (hC w hw) (h a ha)
theorem jt_nil (h : JL P n Q W ops tail E) : JT P n Q W ops tail [] E := fun a ha => wpQuiet_nil (fun w hw => h a w ha hw)
theorem jt_y (hd : o.dst = some d) (hn : d < n) (hg : want ops E o = some true) (hy : Yields P n E W o v) (k : JT P n Q W ops tail rest ((d, v) :: E)) : JT P n Q W ops tail (o :: rest) E := fun a ha =>
  wpQuiet_step fun K hK => by
    rw [if_pos (want_spec ha hg)]
    refine ⟨v, fun w hw => ?_, ?_⟩
    · unfold Oper.quietAt
      rw [hy a w ha hw]
      exact ⟨rfl, rfl⟩
    · rw [hd]; exact hK _ (k _ (ha.put hn v))
theorem jt_skip (hd : o.dst = some d) (hn : d < n) (hg : want ops E o = some false) (k : JT P n Q W ops tail rest ((d, undef) :: E)) : JT P n Q W ops tail (o :: rest) E := fun a ha =>
  wpQuiet_step fun K hK => by
    rw [if_neg (by rw [want_spec ha hg]; simp), hd]
    exact hK _ (k _ (ha.put hn undef))
theorem jt_as {u : Value} (e : v = u) (h : JT P n Q W ops tail rest ((d, u) :: E)) : JT P n Q W ops tail rest ((d, v) :: E) := e ▸ h
theorem jt_call {f : Nat} {args : Array Value} (hd : o.dst = some d) (hn : d < n) (hg : want ops E o = some true) (hf : Goes P n E o f args)
    (hc : ∀ w, W w → Calls P f args w fun e w' => e = .returned v ∧ W w') (k : JT P n Q W ops tail rest ((d, v) :: E)) : JT P n Q W ops tail (o :: rest) E := fun a ha =>
  wpQuiet_step fun K hK => by
    rw [if_pos (want_spec ha hg)]
    refine ⟨v, fun w hw => ?_, ?_⟩
    · unfold Oper.quietAt
      rw [hf a w ha]
      exact ⟨rfl, hc w hw⟩
    · rw [hd]; exact hK _ (k _ (ha.put hn v))
end
theorem Hp.drew {w0 w : World} {S : List Nat} {H : List HA} (h : Hp w0 S H w) : Hp w0 S H w.drew := h.pure ((Ch.refl [] w).drew)
end Go.Proofs.YtghomncegjamfaaGreat
