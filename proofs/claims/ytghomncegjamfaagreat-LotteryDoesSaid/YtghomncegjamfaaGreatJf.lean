/- The calculus, part six: a region that draws its order, walked by a schedule: an operation that leaves the world alone may be taken as soon as it is ready; any other where it alone is ready. -/
import Derived.Test.YtghomncegjamfaaGreatJe
import Derived.OrdersHeld
import Derived.LoopN
import Derived.ScopeJumps
namespace Go.Proofs.YtghomncegjamfaaGreat
open Go.RowKit

section
variable {P : Program} {ops : Array Oper} {md : Region.Mode} {C : World → Prop} {Q : Exit → Act → World → Prop}
/-- Whatever order is picked, as long as operations below n are left: behind each of them C holds. -/
def headS (P : Program) (md : Region.Mode) (ops : Array Oper) (Q : Exit → Act → World → Prop) (C : World → Prop) (n : Nat) (L : Array Bool → Act → World → Prop) : Nat → Array Bool → Act → World → Prop
  | 0, listed, a, w => L listed a w
  | f + 1, listed, a, w => Region.ready md ops listed ≠ [] ∧ ∀ i ∈ Region.ready md ops listed, i < n ∧ wpOp P ops Q i (fun a' w' => C w' ∧ headS P md ops Q C n L f (listed.setIfInBounds i true) a' w') a w
theorem wpAny_of_headS {n m : Nat} {L : Array Bool → Act → World → Prop} (hL : ∀ listed a w, L listed a w → wpAny P md ops Q m listed a w) :
    ∀ (f : Nat) (listed : Array Bool) (a : Act) (w : World), headS P md ops Q C n L f listed a w → wpAny P md ops Q (f + m) listed a w
  | 0, listed, a, w, h => by rw [Nat.zero_add]; exact hL _ _ _ h
  | f + 1, listed, a, w, h => by
    rw [show f + 1 + m = (f + m) + 1 by omega]
    exact ⟨fun h0 => absurd h0 h.1, fun i hi => wpOp_mono (fun a' w' h' => wpAny_of_headS hL f _ a' w' h'.2) (h.2 i hi).2⟩
theorem headS_first {n i : Nat} {oi : Oper} {v : Value} {L : Array Bool → Act → World → Prop} (hi : ops[i]? = some oi) (hsel : ∀ (j : Nat) (o : Oper) cs b, ops[j]? = some o → o.op ≠ .select cs b)
    (hQ : ∀ c a w, Q (.panic c) (a.put oi.dst v) w → Q (.panic c) a w)
    (hs : Region.sinkB md ops n = true) (hc : Region.chainB md ops n = true) (hn : n < ops.size) (hin : i < n) (hdone : ∀ listed a w, L listed a w → ∀ j ∈ Region.ready md ops listed, n ≤ j) :
    ∀ (f : Nat) (listed : Array Bool) (a : Act) (w : World), HeadInv md ops n listed →
      (∀ j oj, ops[j]? = some oj → j ≠ i → listed.getD j true = false → (∀ e ∈ oj.after, Region.binds md e = true → e.on ≠ i) → oi.apart ops oj = true) →
      i ∈ Region.ready md ops listed → YieldsIf P ops C oi v a → C w →
      headS P md ops Q C n L f (listed.setIfInBounds i true) (a.put oi.dst v) w → headS P md ops Q C n L (f + 1) listed a w := by
  intro f
  induction f with
  | zero =>
    intro listed a w inv _ hr hy hC H
    have hun := (mem_ready.1 hr).1
    refine ⟨fun h => (by rw [h] at hr; cases hr), fun j hj => ?_⟩
    have hjn : j < n := (Nat.lt_or_ge j n).elim id fun h => absurd hj (tail_waits hs hc hn inv _ i rfl hin hun j h)
    refine ⟨hjn, ?_⟩
    by_cases hji : j = i
    · subst hji; exact hy.wpOp hi hC ⟨hC, H⟩
    · have := hdone _ _ _ H j (ready_mono hj hji)
      omega
  | succ f ih =>
    intro listed a w inv hfree hr hy hC H
    have hun := (mem_ready.1 hr).1
    refine ⟨fun h => (by rw [h] at hr; cases hr), fun j hj => ?_⟩
    have hjn : j < n := (Nat.lt_or_ge j n).elim id fun h => absurd hj (tail_waits hs hc hn inv _ i rfl hin hun j h)
    refine ⟨hjn, ?_⟩
    by_cases hji : j = i
    · subst hji; exact hy.wpOp hi hC ⟨hC, H⟩
    · have h1 := (H.2 j (ready_mono hj hji)).2
      obtain ⟨hjun, oj, hoj, hall⟩ := mem_ready.1 hj
      have hnot : ∀ e ∈ oj.after, Region.binds md e = true → e.on ≠ i := fun e he hb heq => by
        have h1 := hall e he hb
        rw [heq, getD_both hun] at h1
        cases h1
      have h2 := wpOp_putIf hoj (hfree j oj hoj hji hjun hnot) (fun cs b => hsel i oi cs b hi) (fun cs b => hsel j oj cs b hoj) hQ hy h1
      have hfree' : ∀ k ok, ops[k]? = some ok → k ≠ i → (listed.setIfInBounds j true).getD k true = false →
          (∀ e ∈ ok.after, Region.binds md e = true → e.on ≠ i) → oi.apart ops ok = true := fun k ok hk hki hun' hno => by
        refine hfree k ok hk hki ?_ hno
        by_cases hjk : j = k
        · subst hjk; exact hjun
        · rw [getD_set_ne true hjk] at hun'; exact hun'
      refine wpOp_mono (fun a' w' h3 => ⟨h3.2.1, ih (listed.setIfInBounds j true) a' w' (inv.set hj hjn) hfree' (ready_mono hr (Ne.symm hji)) h3.1 h3.2.1 ?_⟩) h2
      rw [Array.setIfInBounds_comm _ _ hji]
      exact h3.2.2

/-- The walk by a schedule: an operation and whether it is taken. -/
def wpS (P : Program) (ops : Array Oper) (Q : Exit → Act → World → Prop) (C : World → Prop) (K : Act → World → Prop) : List (Oper × Bool) → Act → World → Prop
  | [], a, w => K a w
  | (o, true) :: rest, a, w => ∃ v, YieldsIf P ops C o v a ∧ wpS P ops Q C K rest (a.put o.dst v) w
  | (o, false) :: rest, a, w => if Region.wanted o (yielded ops a.tmps) then o.wp P a w (fun a' w' => C w' ∧ wpS P ops Q C K rest a' w') Q else wpS P ops Q C K rest (a.put o.dst undef) w

def schedB (md : Region.Mode) (ops : Array Oper) (n m : Nat) : List (Nat × Bool) → Array Bool → Bool
  | [], listed => Region.seqB md ops m n listed
  | (i, true) :: rest, listed => decide (i < n) && (Region.ready md ops listed).contains i && Region.free md ops listed i && schedB md ops n m rest (listed.setIfInBounds i true)
  | (i, false) :: rest, listed => decide (i < n) && decide (Region.ready md ops listed = [i]) && schedB md ops n m rest (listed.setIfInBounds i true)

def nthO : List Oper → Nat → Oper
  | [], _ => default
  | o :: _, 0 => o
  | _ :: l, i + 1 => nthO l i
def pickO (l : List Oper) : List (Nat × Bool) → List (Oper × Bool)
  | [] => []
  | (i, b) :: rest => (nthO l i, b) :: pickO l rest
theorem nthO_eq : ∀ {l : List Oper} {i : Nat}, i < l.length → l[i]? = some (nthO l i)
  | [], i, h => by simp at h
  | o :: l, 0, _ => rfl
  | o :: l, i + 1, h => by rw [List.getElem?_cons_succ]; exact nthO_eq (l := l) (i := i) (by simpa using h)

theorem headS_of_sched {l : List Oper} {n m : Nat} {K : Act → World → Prop} (hops : ops = l.toArray) (hsel : Region.noSelect ops = true) (hQ : ∀ c (a : Act) (t : Array Value) w, Q (.panic c) { a with tmps := t } w → Q (.panic c) a w) (hs : Region.sinkB md ops n = true) (hc : Region.chainB md ops n = true) (hn : n < ops.size) :
    ∀ (sched : List (Nat × Bool)) (listed : Array Bool) (a : Act) (w : World), HeadInv md ops n listed → schedB md ops n m sched listed = true → C w → wpS P ops Q C K (pickO l sched) a w →
    headS P md ops Q C n (fun listed' a' w' => Region.seqB md ops m n listed' = true ∧ K a' w') sched.length listed a w
  | [], listed, a, w, _, hB, _, h => ⟨hB, h⟩
  | (i, true) :: rest, listed, a, w, inv, hB, hC, h => by
    simp only [schedB, Bool.and_eq_true, decide_eq_true_eq] at hB
    obtain ⟨⟨⟨hin, hr⟩, hf⟩, hB'⟩ := hB
    have hr' : i ∈ Region.ready md ops listed := by simpa using hr
    have hi : ops[i]? = some (nthO l i) := by
      subst hops
      rw [List.getElem?_toArray]
      exact nthO_eq (by simp at hn; omega)
    obtain ⟨v, hy, h'⟩ := h
    exact headS_first hi (Region.noSelect_spec hsel) (fun c a w hq => by cases hd : (nthO l i).dst with | none => (rw [hd] at hq; exact hq) | some d => (rw [hd] at hq; exact hQ c a _ w hq)) hs hc hn hin (fun _ _ _ hL => seqB_ready hL.1) rest.length listed a w inv (Region.free_spec hi hf) hr' hy hC
      (headS_of_sched hops hsel hQ hs hc hn rest _ _ _ (inv.set hr' hin) hB' hC h')
  | (i, false) :: rest, listed, a, w, inv, hB, hC, h => by
    simp only [schedB, Bool.and_eq_true, decide_eq_true_eq] at hB
    obtain ⟨⟨hin, hr⟩, hB'⟩ := hB
    have hi : ops[i]? = some (nthO l i) := by
      subst hops
      rw [List.getElem?_toArray]
      exact nthO_eq (by simp at hn; omega)
    refine ⟨by rw [hr]; simp, fun j hj => ?_⟩
    have hji : j = i := by rw [hr] at hj; simpa using hj
    subst hji
    refine ⟨hin, ?_⟩
    unfold wpOp
    simp only [hi]
    simp only [pickO, wpS] at h
    split
    · rename_i hw
      rw [if_pos hw] at h
      refine .inl (Oper.wp_mono (fun a' w' h' => ⟨h'.1, headS_of_sched hops hsel hQ hs hc hn rest _ _ _ (inv.set (by rw [hr]; simp) hin) hB' h'.1 h'.2⟩) h)
    · rename_i hw
      rw [if_neg hw] at h
      exact ⟨hC, headS_of_sched hops hsel hQ hs hc hn rest _ _ _ (inv.set (by rw [hr]; simp) hin) hB' hC h⟩

theorem wp_region_sched {id : Nat} {a : Act} {w : World} {l : List Oper} (n : Nat) (sched : List (Nat × Bool)) (hm : P.follows .mixedOrders = true) (hl : sched.length = n)
    (hB : (Region.noSelect l.toArray && decide (n < l.toArray.size) && Region.sinkB .any l.toArray n && Region.chainB .any l.toArray n && schedB .any l.toArray n (l.toArray.size - n) sched (Array.replicate l.toArray.size false)) = true)
    (hQ : ∀ c (a : Act) (t : Array Value) w, Q (.panic c) { a with tmps := t } w → Q (.panic c) a w) (hC : C { w with drawn := w.drawn + 1 })
    (h : wpS P l.toArray Q C (fun a' w' => wpList P l.toArray Q (l.drop n) a' w') (pickO l sched) a { w with drawn := w.drawn + 1 }) : (Code.region id l.toArray true).wp P Q a w := by
  simp only [Bool.and_eq_true, decide_eq_true_eq] at hB
  obtain ⟨⟨⟨⟨hsel, hn⟩, hs⟩, hc⟩, hsc⟩ := hB
  have hn' : n < l.length := by simpa using hn
  have hdl : (l.drop n).length = l.toArray.size - n := by simp
  have inv0 : HeadInv .any l.toArray n (Array.replicate l.toArray.size false) :=
    ⟨by simp, fun j oj _ hl => (by rw [getD_replicate_false] at hl; cases hl), fun t _ ht => getD_in (by simpa using ht) (getD_replicate_false _ _)⟩
  have H := headS_of_sched (md := .any) rfl hsel hQ hs hc hn sched _ a _ inv0 hsc hC h
  refine wp_region_any hm ?_
  have := wpAny_of_headS (m := l.toArray.size - n) (fun listed a' w' hL => by
    have := wpAny_of_seq (md := .any) (Q' := Q) (l.drop n) n listed a' w' (fun j => by simp [List.getElem?_drop]) (by rw [hdl]; exact hL.1) hL.2
    rwa [hdl] at this) _ _ _ _ H
  rw [hl, show n + (l.toArray.size - n) = l.toArray.size by omega] at this
  exact this
end

/-- Such a walk: what every operation keeps ('C': the memory as it was at the region's head), what is known now ('W'). -/
def JS (P : Program) (n : Nat) (Q : Exit → Act → World → Prop) (C W : World → Prop) (ops : Array Oper) (tail : List Oper) (rest : List (Oper × Bool)) (E : Env) : Prop := ∀ a w, Holds n E a → W w → wpS P ops Q C (fun a' w' => wpList P ops Q tail a' w') rest a w
section
variable {P : Program} {n : Nat} {E : Env} {C W : World → Prop} {Q : Exit → Act → World → Prop} {ops : Array Oper} {tail : List Oper} {rest : List (Oper × Bool)} {o : Oper} {d : Nat} {v : Value}
theorem jc_sched [Mixed P] {id : Nat} {l : List Oper} (m : Nat) (sched : List (Nat × Bool)) (hl : sched.length = m)
    (hB : (Region.noSelect l.toArray && decide (m < l.toArray.size) && Region.sinkB .any l.toArray m && Region.chainB .any l.toArray m && schedB .any l.toArray m (l.toArray.size - m) sched (Array.replicate l.toArray.size false)) = true)
    (hQ : ∀ c (a : Act) (t : Array Value) w, Q (.panic c) { a with tmps := t } w → Q (.panic c) a w) (hC : ∀ w, W w → W w.drew) (h : JS P n Q W W l.toArray (l.drop m) (pickO l sched) E) : JC P n Q W (.region id l.toArray true) E := fun a w ha hw =>
  wp_region_sched (C := W) m sched Mixed.h hl hB hQ (hC w hw) (h a _ ha (hC w hw))
theorem js_nil (h : JL P n Q W ops tail E) : JS P n Q C W ops tail [] E := fun a w ha hw => h a w ha hw
/-- Taken: it yields its value wherever C holds. -/
theorem js_take (hd : o.dst = some d) (hn : d < n) (hg : want ops E o = some true) (hy : Yields P n E C o v) (k : JS P n Q C W ops tail rest ((d, v) :: E)) : JS P n Q C W ops tail ((o, true) :: rest) E := fun a w ha hw =>
  ⟨v, .inl ⟨want_spec ha hg, fun w' hw' => hy a w' ha hw'⟩, by rw [hd]; exact k _ _ (ha.put hn v) hw⟩
theorem js_take_skip (hd : o.dst = some d) (hn : d < n) (hg : want ops E o = some false) (k : JS P n Q C W ops tail rest ((d, undef) :: E)) : JS P n Q C W ops tail ((o, true) :: rest) E := fun a w ha hw =>
  ⟨undef, .inr ⟨want_spec ha hg, rfl⟩, by rw [hd]; exact k _ _ (ha.put hn undef) hw⟩
theorem js_skip (hd : o.dst = some d) (hn : d < n) (hg : want ops E o = some false) (k : JS P n Q C W ops tail rest ((d, undef) :: E)) : JS P n Q C W ops tail ((o, false) :: rest) E := fun a w ha hw => by
  show (if Region.wanted o (yielded ops a.tmps) then _ else _)
  rw [if_neg (by rw [want_spec ha hg]; simp), hd]
  exact k _ _ (ha.put hn undef) hw
theorem js_y (hW : ∀ w, W w → C w) (hd : o.dst = some d) (hn : d < n) (hg : want ops E o = some true) (hy : Yields P n E W o v) (k : JS P n Q C W ops tail rest ((d, v) :: E)) : JS P n Q C W ops tail ((o, false) :: rest) E := fun a w ha hw => by
  show (if Region.wanted o (yielded ops a.tmps) then _ else _)
  rw [if_pos (want_spec ha hg)]
  unfold Oper.wp
  rw [hy a w ha hw, Oper.upon_value, hd]
  exact ⟨hW w hw, k _ _ (ha.put hn v) hw⟩
theorem js_m {ι : Type} {v : ι → Value} {W' : ι → World → Prop} (hW : ∀ i w, W' i w → C w) (hd : o.dst = some d) (hn : d < n) (hg : want ops E o = some true) (hy : Makes P n E W o v W') (k : ∀ i, JS P n Q C (W' i) ops tail rest ((d, v i) :: E)) : JS P n Q C W ops tail ((o, false) :: rest) E := fun a w ha hw => by
  show (if Region.wanted o (yielded ops a.tmps) then _ else _)
  rw [if_pos (want_spec ha hg)]
  obtain ⟨i, w', hr, hw'⟩ := hy a w ha hw
  unfold Oper.wp
  rw [hr, Oper.upon_value, hd]
  exact ⟨hW i w' hw', k i _ _ (ha.put hn _) hw'⟩
theorem js_call {ι : Type} {f : Nat} {args : Array Value} {v : ι → Value} {W' : ι → World → Prop} (hW : ∀ i w, W' i w → C w) (hd : o.dst = some d) (hn : d < n) (hg : want ops E o = some true) (hf : Goes P n E o f args)
    (hc : ∀ w, W w → Calls P f args w fun e w' => ∃ i, e = .returned (v i) ∧ W' i w') (k : ∀ i, JS P n Q C (W' i) ops tail rest ((d, v i) :: E)) : JS P n Q C W ops tail ((o, false) :: rest) E := fun a w ha hw => by
  show (if Region.wanted o (yielded ops a.tmps) then _ else _)
  rw [if_pos (want_spec ha hg)]
  unfold Oper.wp
  rw [hf a w ha, Oper.upon_enter]
  refine (hc w hw).mono ?_
  rintro e w' ⟨i, rfl, hw'⟩
  rw [hd]
  exact ⟨hW i w' hw', k i _ _ (ha.put hn _) hw'⟩
theorem js_pcall {f : Nat} {args : Array Value} (hW : ∀ w, W w → C w) (hd : o.dst = some d) (hn : d < n) (hg : want ops E o = some true) (hf : Goes P n E o f args)
    (hc : ∀ w, W w → Calls P f args w fun e w' => e = .returned v ∧ W w') (k : JS P n Q C W ops tail rest ((d, v) :: E)) : JS P n Q C W ops tail ((o, false) :: rest) E :=
  js_call (ι := Unit) (v := fun _ => v) (W' := fun _ => W) (fun _ w h => hW w h) hd hn hg hf (fun w hw => (hc w hw).mono fun _ _ h => ⟨(), h⟩) fun _ => k
theorem js_as {u : Value} (e : v = u) (h : JS P n Q C W ops tail rest ((d, u) :: E)) : JS P n Q C W ops tail rest ((d, v) :: E) := e ▸ h
theorem js_bool {b : Bool} (h1 : b = true → JS P n Q C W ops tail rest ((d, .bool true) :: E)) (h2 : b = false → JS P n Q C W ops tail rest ((d, .bool false) :: E)) : JS P n Q C W ops tail rest ((d, .bool b) :: E) := by
  cases b
  · exact h2 rfl
  · exact h1 rfl
end
/-- What a call hands back in a block of its own. -/
def Fresh (w w' : World) (A : HA) : Prop := Ch [] w w' ∧ A.ok w' ∧ ∀ k, A.foot = some k → w.heap.size ≤ k
theorem Fresh.hp {w0 w w' : World} {S : List Nat} {H : List HA} {A : HA} (hw : Hp w0 S H w) (h : Fresh w w' A) : Hp w0 S (A :: H) w' := hw.new h.1 h.2.1 h.2.2
theorem Hp.fresh {w w' : World} {A : HA} (h : Hp w [] [A] w') : Fresh w w' A := ⟨h.ch, h.ok A (by simp), fun k hk => by simpa using h.own A (by simp) k hk⟩
section
variable {P : Program} {n : Nat} {E : Env} {C W : World → Prop} {Q : Exit → Act → World → Prop} {ops : Array Oper} {tail : List Oper} {rest : List Oper} {o : Oper} {d : Nat} {v : Value} {f : Nat} {args : Array Value} {w0 : World} {S : List Nat} {H H' : List HA} {A A' : HA}
/-- A call that hands back something in a block of its own. -/
theorem jl_fcall {ι : Type} {v : ι → Value} {A : ι → HA} (hd : o.dst = some d) (hn : d < n) (hg : want ops E o = some true) (hf : Goes P n E o f args)
    (hc : ∀ w, Hp w0 S H w → Calls P f args w fun e w' => ∃ b, e = .returned (v b) ∧ Fresh w w' (A b)) (k : ∀ b, JL P n Q (Hp w0 S (A b :: H)) ops rest ((d, v b) :: E)) : JL P n Q (Hp w0 S H) ops (o :: rest) E :=
  jl_call (v := v) (W' := fun b => Hp w0 S (A b :: H)) hd hn hg hf (fun w hw => (hc w hw).mono fun _ _ ⟨b, he, h⟩ => ⟨b, he, h.hp hw⟩) k
theorem js_fcall {rest : List (Oper × Bool)} {ι : Type} {v : ι → Value} {A : ι → HA} (hW : ∀ w, Hp w0 S H w → C w) (hd : o.dst = some d) (hn : d < n) (hg : want ops E o = some true) (hf : Goes P n E o f args)
    (hc : ∀ w, Hp w0 S H w → Calls P f args w fun e w' => ∃ b, e = .returned (v b) ∧ Fresh w w' (A b)) (k : ∀ b, JS P n Q C (Hp w0 S (A b :: H)) ops tail rest ((d, v b) :: E)) : JS P n Q C (Hp w0 S H) ops tail ((o, false) :: rest) E :=
  js_call (v := v) (W' := fun b => Hp w0 S (A b :: H)) (fun _ w h => hW w h.pop) hd hn hg hf (fun w hw => (hc w hw).mono fun _ _ ⟨b, he, h⟩ => ⟨b, he, h.hp hw⟩) k
/-- A call that turns one block. -/
def Upd (w w' : World) (A A' : HA) : Prop := Ch A.foot.toList w w' ∧ A'.ok w'
theorem Upd.hp {w w' : World} (hw : Hp w0 S H w) (r : Rep A A' H H') (hf : A'.foot = A.foot) (h : Upd w w' A A') : Hp w0 S H' w' :=
  hw.upd r h.1 (fun k hk => by simpa using hk) h.2 (fun k hk => .inl (hf ▸ hk))
theorem Hp.updd {w w' : World} {b : Nat} (hS : A.foot = some b) (h : Hp w [b] [A'] w') : Upd w w' A A' := ⟨by rw [hS]; exact h.ch, h.ok A' (by simp)⟩
theorem jl_ucall (hd : o.dst = some d) (hn : d < n) (hg : want ops E o = some true) (hf : Goes P n E o f args) (hA : A'.foot = A.foot)
    (hc : ∀ w, A.ok w → Calls P f args w fun e w' => e = .returned v ∧ Upd w w' A A') (r : Rep A A' H H') (k : JL P n Q (Hp w0 S H') ops rest ((d, v) :: E)) : JL P n Q (Hp w0 S H) ops (o :: rest) E :=
  jl_call (ι := Unit) (v := fun _ => v) (W' := fun _ => Hp w0 S H') hd hn hg hf (fun w hw => (hc w (hw.get r.mem)).mono fun _ _ ⟨he, h⟩ => ⟨(), he, h.hp hw r hA⟩) fun _ => k
theorem Hp.start {w : World} {b : Nat} (hb : A.foot = some b) (h : A.ok w) : Hp w [b] [A] w := (Hp.nil w [b]).cons h (fun k hk => .inr (by rw [hb] at hk; cases hk; simp)) (by simp)
/-- A loop of a known number of rounds. -/
theorem Hp.nilrow {w0 w : World} {S : List Nat} {H : List HA} (e size : Nat) (h : Hp w0 S H w) : Hp w0 S (.row none 0 0 e size [] :: H) w :=
  h.cons ⟨by simp, .inl ⟨rfl, rfl⟩⟩ (fun k hk => by cases hk) (fun B _ k hk => by cases hk)
theorem TakeAt.of {α : Type} : ∀ {o n : Nat} {vs cs : List α}, (vs.drop o).take n = cs → o + n ≤ vs.length → TakeAt o n vs cs
  | 0, 0, vs, cs, h, _ => by subst h; exact .done
  | 0, n + 1, [], cs, _, h => by simp at h
  | 0, n + 1, v :: vs, cs, h, hl => by subst h; exact .take (TakeAt.of rfl (by simp at hl ⊢; omega))
  | o + 1, n, [], cs, _, h => by simp at h
  | o + 1, n, v :: vs, cs, h, hl => .skip (TakeAt.of (by simpa using h) (by simp at hl; omega))
def JR (P : Program) (n : Nat) (Q : Exit → Act → World → Prop) (W : World → Prop) (c : Code) (m : Nat) (E : Env) : Prop := ∀ a w, Holds n E a → W w → Code.rounds P c Q m a w
theorem jc_rounds {c : Code} (m : Nat) (h : JR P n Q W c m E) : JC P n Q W (.loop c) E := fun a w ha hw => wp_loop_rounds m (h a w ha hw)
theorem jr_succ {c : Code} {m : Nat} (h : JC P n (Exit.then (Code.rounds P c Q m) Q) W c E) : JR P n Q W c (m + 1) E := fun a w ha hw => h a w ha hw
theorem jq_again {c : Code} {m : Nat} (h : JR P n Q W c m E) : JQ n (Exit.then (Code.rounds P c Q m) Q) W .normal E := h
/-- A scope in which the run jumps back to one label. -/
theorem jc_label {l : Nat} (h : JQ n Q W .normal E) : JC P n Q W (.label l) E := fun a w ha hw => wp_label (h a w ha hw)
theorem jc_goto {l : Nat} (h : JQ n Q W (.goto l) E) : JC P n Q W (.goto l) E := fun a w ha hw => wp_goto (h a w ha hw)
theorem jc_scope {ι : Type} {c R : Code} (l : Nat) (I : ι → Env) (V : ι → World → Prop) (μ : ι → Nat) (hf : findLabel c l = some (.seq .skip R))
    (first : (∀ i, JC P n (Exit.jump l (fun a w => ∃ j, Holds n (I j) a ∧ V j w) Q) (V i) R (I i)) → JC P n (Exit.jump l (fun a w => ∃ j, Holds n (I j) a ∧ V j w) Q) W c E)
    (pass : ∀ i, JC P n (Exit.jump l (fun a w => ∃ j, μ j < μ i ∧ Holds n (I j) a ∧ V j w) Q) (V i) R (I i)) : JC P n Q W (.scope c) E := by
  intro a w ha hw b k cs
  have hg : gotoIn l (.inScope c :: k) = some (.code (.seq .skip R) :: .inScope c :: k) := by simp [gotoIn, hf]
  have key : ∀ m i a w, μ i = m → Holds n (I i) a → V i w → ∃ e a' w', Q e a' w' ∧ Arrives P (lone (b.at a (.code (.seq .skip R) :: .inScope c :: k)) cs w) b k cs e a' w' := by
    intro m
    induction m using Nat.strongRecOn with
    | _ m ih =>
      intro i a w hm hI hV
      obtain ⟨e, a₁, w₁, hq, harr⟩ := (wp_seq (wp_skip (pass i a w hI hV)) : (Code.seq .skip R).wp P _ a w) b (.inScope c :: k) cs
      cases e with
      | normal => exact ⟨.normal, a₁, w₁, hq, Steps.trans harr (.one step_inScope)⟩
      | exit id => exact ⟨.exit id, a₁, w₁, hq, fun k' hk => harr k' (by simp [exitTo, hk])⟩
      | goto l' =>
        obtain ⟨rfl, j, hlt, hI', hV'⟩ := hq
        obtain ⟨e₂, a₂, w₂, hq₂, harr₂⟩ := ih _ (by omega) j a₁ w₁ rfl hI' hV'
        exact ⟨e₂, a₂, w₂, hq₂, .of_steps (harr _ hg) harr₂⟩
      | ret => exact ⟨_, a₁, w₁, hq, harr⟩
      | panic ch => exact ⟨_, a₁, w₁, hq, harr⟩
      | outgrown => exact ⟨_, a₁, w₁, hq, harr⟩
  have again : ∀ i, JC P n (Exit.jump l (fun a w => ∃ j, Holds n (I j) a ∧ V j w) Q) (V i) R (I i) := fun i a w ha hw => wp_mono (pass i a w ha hw) fun e a' w' hq => by
    cases e with
    | goto l' => exact ⟨hq.1, let ⟨j, _, h⟩ := hq.2; ⟨j, h⟩⟩
    | normal => exact hq
    | exit id => exact hq
    | ret => exact hq
    | panic ch => exact hq
    | outgrown => exact hq
  obtain ⟨e, a₁, w₁, hq, harr⟩ := first again a w ha hw b (.inScope c :: k) cs
  cases e with
  | normal => exact ⟨.normal, a₁, w₁, hq, .head step_scope (Steps.trans harr (.one step_inScope))⟩
  | exit id => exact ⟨.exit id, a₁, w₁, hq, fun k' hk => .head step_scope (harr k' (by simp [exitTo, hk]))⟩
  | goto l' =>
    obtain ⟨rfl, j, hI, hV⟩ := hq
    obtain ⟨e₂, a₂, w₂, hq₂, harr₂⟩ := key _ j a₁ w₁ rfl hI hV
    exact ⟨e₂, a₂, w₂, hq₂, .of_steps (.head step_scope (harr _ hg)) harr₂⟩
  | ret => exact ⟨_, a₁, w₁, hq, .of_steps (.one step_scope) harr⟩
  | panic ch => exact ⟨_, a₁, w₁, hq, .of_steps (.one step_scope) harr⟩
  | outgrown => exact ⟨_, a₁, w₁, hq, .of_steps (.one step_scope) harr⟩
theorem jq_jump {ι : Type} {I : ι → Env} {V : ι → World → Prop} {μ : ι → Nat} {i : ι} {l : Nat} (j : ι) (hlt : μ j < μ i) (hk : Knows E (I j)) (hw : ∀ w, W w → V j w) :
    JQ n (Exit.jump l (fun a w => ∃ j, μ j < μ i ∧ Holds n (I j) a ∧ V j w) Q) W (.goto l) E := fun _ w ha hw' => ⟨rfl, j, hlt, ha.weaken hk, hw w hw'⟩
theorem jq_scope {J : Act → World → Prop} {l : Nat} (h : JQ n Q W .normal E) : JQ n (Exit.jump l J Q) W .normal E := h
theorem jq_scope_ret {J : Act → World → Prop} {l : Nat} (h : JQ n Q W .ret E) : JQ n (Exit.jump l J Q) W .ret E := h
theorem jq_scope_exit {J : Act → World → Prop} {l id : Nat} (h : JQ n Q W (.exit id) E) : JQ n (Exit.jump l J Q) W (.exit id) E := h
/-- The same with an index of several parts. -/
theorem jc_loop2 {α β : Type} {c : Code} (I : α → β → Env) (V : α → β → World → Prop) (μ : α → β → Nat) (i₀ : α) (j₀ : β) (h₀ : Knows E (I i₀ j₀)) (h₁ : ∀ w, W w → V i₀ j₀ w)
    (round : ∀ i j, JC P n (Exit.then (fun a w => ∃ i' j', μ i' j' < μ i j ∧ Holds n (I i' j') a ∧ V i' j' w) Q) (V i j) c (I i j)) : JC P n Q W (.loop c) E :=
  jc_loop (ι := α × β) (fun p => I p.1 p.2) (fun p => V p.1 p.2) (fun p => μ p.1 p.2) (i₀, j₀) h₀ h₁ fun p a w ha hw => wp_mono (round p.1 p.2 a w ha hw) fun e a' w' hq => by
    cases e with
    | normal => obtain ⟨i', j', h⟩ := hq; exact ⟨(i', j'), h⟩
    | exit id => exact hq
    | goto l => exact hq
    | ret => exact hq
    | panic ch => exact hq
    | outgrown => exact hq
theorem jq_round2 {α β : Type} {I : α → β → Env} {V : α → β → World → Prop} {μ : α → β → Nat} {i : α} {j : β} (i' : α) (j' : β) (hlt : μ i' j' < μ i j) (hk : Knows E (I i' j')) (hw : ∀ w, W w → V i' j' w) :
    JQ n (Exit.then (fun a w => ∃ i' j', μ i' j' < μ i j ∧ Holds n (I i' j') a ∧ V i' j' w) Q) W .normal E := fun _ w ha hw' => ⟨i', j', hlt, ha.weaken hk, hw w hw'⟩
theorem jc_loop3 {α β γ : Type} {c : Code} (I : α → β → γ → Env) (V : α → β → γ → World → Prop) (μ : α → β → γ → Nat) (i₀ : α) (j₀ : β) (l₀ : γ) (h₀ : Knows E (I i₀ j₀ l₀)) (h₁ : ∀ w, W w → V i₀ j₀ l₀ w)
    (round : ∀ i j l, JC P n (Exit.then (fun a w => ∃ i' j' l', μ i' j' l' < μ i j l ∧ Holds n (I i' j' l') a ∧ V i' j' l' w) Q) (V i j l) c (I i j l)) : JC P n Q W (.loop c) E :=
  jc_loop (ι := α × β × γ) (fun p => I p.1 p.2.1 p.2.2) (fun p => V p.1 p.2.1 p.2.2) (fun p => μ p.1 p.2.1 p.2.2) (i₀, j₀, l₀) h₀ h₁ fun p a w ha hw => wp_mono (round p.1 p.2.1 p.2.2 a w ha hw) fun e a' w' hq => by
    cases e with
    | normal => obtain ⟨i', j', l', h⟩ := hq; exact ⟨(i', j', l'), h⟩
    | exit id => exact hq
    | goto l => exact hq
    | ret => exact hq
    | panic ch => exact hq
    | outgrown => exact hq
theorem jq_round3 {α β γ : Type} {I : α → β → γ → Env} {V : α → β → γ → World → Prop} {μ : α → β → γ → Nat} {i : α} {j : β} {l : γ} (i' : α) (j' : β) (l' : γ) (hlt : μ i' j' l' < μ i j l) (hk : Knows E (I i' j' l')) (hw : ∀ w, W w → V i' j' l' w) :
    JQ n (Exit.then (fun a w => ∃ i' j' l', μ i' j' l' < μ i j l ∧ Holds n (I i' j' l') a ∧ V i' j' l' w) Q) W .normal E := fun _ w ha hw' => ⟨i', j', l', hlt, ha.weaken hk, hw w hw'⟩
theorem jc_loop4 {α β γ δ : Type} {c : Code} (I : α → β → γ → δ → Env) (V : α → β → γ → δ → World → Prop) (μ : α → β → γ → δ → Nat) (i₀ : α) (j₀ : β) (l₀ : γ) (m₀ : δ) (h₀ : Knows E (I i₀ j₀ l₀ m₀)) (h₁ : ∀ w, W w → V i₀ j₀ l₀ m₀ w)
    (round : ∀ i j l m, JC P n (Exit.then (fun a w => ∃ i' j' l' m', μ i' j' l' m' < μ i j l m ∧ Holds n (I i' j' l' m') a ∧ V i' j' l' m' w) Q) (V i j l m) c (I i j l m)) : JC P n Q W (.loop c) E :=
  jc_loop (ι := α × β × γ × δ) (fun p => I p.1 p.2.1 p.2.2.1 p.2.2.2) (fun p => V p.1 p.2.1 p.2.2.1 p.2.2.2) (fun p => μ p.1 p.2.1 p.2.2.1 p.2.2.2) (i₀, j₀, l₀, m₀) h₀ h₁ fun p a w ha hw => wp_mono (round p.1 p.2.1 p.2.2.1 p.2.2.2 a w ha hw) fun e a' w' hq => by
    cases e with
    | normal => obtain ⟨i', j', l', m', h⟩ := hq; exact ⟨(i', j', l', m'), h⟩
    | exit id => exact hq
    | goto l => exact hq
    | ret => exact hq
    | panic ch => exact hq
    | outgrown => exact hq
theorem jq_round4 {α β γ δ : Type} {I : α → β → γ → δ → Env} {V : α → β → γ → δ → World → Prop} {μ : α → β → γ → δ → Nat} {i : α} {j : β} {l : γ} {m : δ} (i' : α) (j' : β) (l' : γ) (m' : δ) (hlt : μ i' j' l' m' < μ i j l m) (hk : Knows E (I i' j' l' m')) (hw : ∀ w, W w → V i' j' l' m' w) :
    JQ n (Exit.then (fun a w => ∃ i' j' l' m', μ i' j' l' m' < μ i j l m ∧ Holds n (I i' j' l' m') a ∧ V i' j' l' m' w) Q) W .normal E := fun _ w ha hw' => ⟨i', j', l', m', hlt, ha.weaken hk, hw w hw'⟩
end
/-! ### What is handed back -/
section
variable {P : Program} {n : Nat} {E : Env} {W : World → Prop} {fn : Func} {R : Ending → World → Prop}
/-- The results' values. -/
inductive Res (P : Program) (E : Env) (W : World → Prop) : List ResultVar → List Value → Prop where
  | nil : Res P E W [] []
  | tmp {t : Nat} {v : Value} {rs : List ResultVar} {vs : List Value} : lk E t = some v → Res P E W rs vs → Res P E W (.tmp t :: rs) (v :: vs)
  | cell {t T : Nat} {ad : Addr} {v : Value} {rs : List ResultVar} {vs : List Value} : lk E t = some (.pointer (some ad)) → (∀ w, W w → (loadVar T ad).run P w = .ok v w) → Res P E W rs vs → Res P E W (.cell t T :: rs) (v :: vs)
def retV : List Value → Value
  | [v] => v
  | vs => .tuple vs.toArray
theorem Res.run {rs : List ResultVar} {vs : List Value} (h : Res P E W rs vs) {a : Act} {w : World} (ha : Holds n E a) (hw : W w) :
    ∀ acc : Array Value, (rs.foldlM (fun (bs : Array Value) (r : ResultVar) => bs.push <$> (match r with | .tmp t => pure (a.tmps.getD t undef) | .cell x t => do loadVar t (← asAddr (a.tmps.getD x undef)) : Sem Value)) acc : Sem (Array Value)).run P w = .ok (acc ++ vs.toArray) w := by
  induction h with
  | nil => intro acc; simp
  | @tmp t v rs vs ht _ ih =>
    intro acc
    have := ih (acc.push v)
    simp only [List.foldlM_cons, map_pure, pure_bind, getD_of ha ht]
    rw [this]; simp
  | @cell t T ad v rs vs ht hl _ ih =>
    intro acc
    have := ih (acc.push v)
    have ea : asAddr (.pointer (some ad)) = (pure ad : Sem Addr) := rfl
    simp only [List.foldlM_cons, getD_of ha ht, ea, pure_bind]
    rw [Sem.run_bind, map_eq_pure_bind, Sem.run_bind, hl w hw]
    simp only [Result.andThen_ok, Sem.run_pure]
    rw [this]; simp
theorem jq_res {e : Exit} {rs : List ResultVar} {vs : List Value} (he : e = .ret ∨ e = .normal) (hr : fn.results = rs.toArray) (hv : Res P E W rs vs) (h : ∀ w, W w → R (.returned (retV vs)) w) : JQ n (bodyPost P fn R) W e E := fun a w ha hw => by
  have h1 : (results fn a.tmps).run P w = .ok (retV vs) w := by
    have h2 := hv.run (n := n) ha hw #[]
    unfold results
    rw [hr, Array.mapM_eq_foldlM, List.foldlM_toArray' _ _ _ rfl, Sem.run_bind]
    refine Eq.trans (congrArg (fun x : Result (Array Value) => x.andThen fun (vs : Array Value) w' => Sem.run P (pure (if h : vs.size = 1 then vs[0] else .tuple vs)) w') h2) ?_
    cases vs with
    | nil => rfl
    | cons v vs => cases vs with
      | nil => rfl
      | cons u vs => simp [retV]
  rcases he with rfl | rfl
  · exact bodyPost_ret h1 ha.nodef (h w hw)
  · exact bodyPost_end h1 ha.nodef (h w hw)
theorem ld_agg_of {T b o size : Nat} {us : List Value} {w : World} [hC : TAgg P T size] (hl : us.length = size) (hc : ∀ j u, us[j]? = some u → w.cell? ⟨b, o + j, none⟩ = some u) : (loadVar T ⟨b, o, none⟩).run P w = .ok (.agg us.toArray) w := by
  have := run_loadCells (P := P) (w := w) (b := b) (us := us) (o := o) (acc := #[]) 0 (fun j u hj => by simpa using hc j u hj)
  rw [hl] at this
  simp [loadVar, hC.h w, loadCells, this]
theorem ld_agg {w0 : World} {S : List Nat} {H : List HA} {T b off size : Nat} {vs us : List Value} [hC : TAgg P T size] (hm : HA.cells b vs ∈ H) (hv : TakeAt off size vs us) : ∀ w, Hp w0 S H w → (loadVar T ⟨b, off, none⟩).run P w = .ok (.agg us.toArray) w := fun w hw =>
  ld_agg_of (by rw [← hv.eq.1]; have := hv.eq.2; simp; omega) fun j u hj => by
    rw [(hw.get hm : Cells w b vs).cell, ← hj, ← hv.eq.1, List.getElem?_take]
    have : j < us.length := (List.getElem?_eq_some_iff.1 hj).1
    have h2 : us.length = size := by rw [← hv.eq.1]; have := hv.eq.2; simp; omega
    rw [if_pos (by omega), List.getElem?_drop]
theorem ld_cell {w0 : World} {S : List Nat} {H : List HA} {T b off : Nat} {vs : List Value} {v : Value} [hC : TCell P T] (hm : HA.cells b vs ∈ H) (hv : vs[off]? = some v) : ∀ w, Hp w0 S H w → (loadVar T ⟨b, off, none⟩).run P w = .ok v w := fun w hw => by
  have hc : w.cell? ⟨b, off, none⟩ = some v := ((hw.get hm : Cells w b vs).cell off).trans hv
  simp [loadVar, (hC.h w).1, load, Sem.run, hc]
end
end Go.Proofs.YtghomncegjamfaaGreat
