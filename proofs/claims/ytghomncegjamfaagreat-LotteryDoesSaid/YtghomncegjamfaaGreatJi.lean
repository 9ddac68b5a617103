/- The calculus, part nine: a drawn region whose operations may stand ready two at a time: a tree of orders. -/
import Derived.Test.YtghomncegjamfaaGreatJh
namespace Go.Proofs.YtghomncegjamfaaGreat
open Go.RowKit

/-- A tree of orders: an operation (and whether it is taken ahead), or one of two. -/
inductive Sch where
  | nil
  | step (i : Nat) (t : Bool) (k : Sch)
  | fork (i : Nat) (ki : Sch) (j : Nat) (kj : Sch)

section
variable {P : Program} {ops : Array Oper} {md : Region.Mode} {C : World → Prop} {Q : Exit → Act → World → Prop}
def wpT (P : Program) (l : List Oper) (Q : Exit → Act → World → Prop) (C : World → Prop) (K : Act → World → Prop) : Sch → Act → World → Prop
  | .nil, a, w => K a w
  | .step i true k, a, w => ∃ v, YieldsIf P l.toArray C (nthO l i) v a ∧ wpT P l Q C K k (a.put (nthO l i).dst v) w
  | .step i false k, a, w => if Region.wanted (nthO l i) (yielded l.toArray a.tmps) then (nthO l i).wp P a w (fun a' w' => C w' ∧ wpT P l Q C K k a' w') Q else wpT P l Q C K k (a.put (nthO l i).dst undef) w
  | .fork i ki j kj, a, w =>
    (if Region.wanted (nthO l i) (yielded l.toArray a.tmps) then (nthO l i).wp P a w (fun a' w' => C w' ∧ wpT P l Q C K ki a' w') Q else wpT P l Q C K ki (a.put (nthO l i).dst undef) w) ∧
    (if Region.wanted (nthO l j) (yielded l.toArray a.tmps) then (nthO l j).wp P a w (fun a' w' => C w' ∧ wpT P l Q C K kj a' w') Q else wpT P l Q C K kj (a.put (nthO l j).dst undef) w)

def schT (md : Region.Mode) (ops : Array Oper) (n m : Nat) : Sch → Nat → Array Bool → Bool
  | .nil, f, listed => decide (f = 0) && Region.seqB md ops m n listed
  | .step i true k, f, listed => decide (0 < f) && (decide (i < n) && (Region.ready md ops listed).contains i && Region.free md ops listed i && schT md ops n m k (f - 1) (listed.setIfInBounds i true))
  | .step i false k, f, listed => decide (0 < f) && (decide (i < n) && decide (Region.ready md ops listed = [i]) && schT md ops n m k (f - 1) (listed.setIfInBounds i true))
  | .fork i ki j kj, f, listed => decide (0 < f) && (decide (i < n) && decide (j < n) && decide (Region.ready md ops listed = [i, j]) && schT md ops n m ki (f - 1) (listed.setIfInBounds i true) && schT md ops n m kj (f - 1) (listed.setIfInBounds j true))

theorem headS_of_tree {l : List Oper} {n m : Nat} {K : Act → World → Prop} (hsel : Region.noSelect l.toArray = true) (hQ : ∀ c (a : Act) (t : Array Value) w, Q (.panic c) { a with tmps := t } w → Q (.panic c) a w) (hs : Region.sinkB md l.toArray n = true) (hc : Region.chainB md l.toArray n = true) (hn : n < l.toArray.size) :
    ∀ (sched : Sch) (f : Nat) (listed : Array Bool) (a : Act) (w : World), HeadInv md l.toArray n listed → schT md l.toArray n m sched f listed = true → C w → wpT P l Q C K sched a w →
    headS P md l.toArray Q C n (fun listed' a' w' => Region.seqB md l.toArray m n listed' = true ∧ K a' w') f listed a w
  | .nil, f, listed, a, w, _, hB, _, h => by
    simp only [schT, Bool.and_eq_true, decide_eq_true_eq] at hB
    obtain ⟨rfl, hB⟩ := hB
    exact ⟨hB, h⟩
  | .step i true rest, 0, listed, a, w, inv, hB, hC, h => by simp [schT] at hB
  | .step i false rest, 0, listed, a, w, inv, hB, hC, h => by simp [schT] at hB
  | .fork i ki j kj, 0, listed, a, w, inv, hB, hC, h => by simp [schT] at hB
  | .step i true rest, f + 1, listed, a, w, inv, hB, hC, h => by
    simp only [schT, Bool.and_eq_true, decide_eq_true_eq, Nat.add_sub_cancel] at hB
    obtain ⟨_, ⟨⟨hin, hr⟩, hf⟩, hB'⟩ := hB
    have hr' : i ∈ Region.ready md l.toArray listed := by simpa using hr
    have hi : l.toArray[i]? = some (nthO l i) := by
      rw [List.getElem?_toArray]
      exact nthO_eq (by simp at hn; omega)
    obtain ⟨v, hy, h'⟩ := h
    exact headS_first hi (Region.noSelect_spec hsel) (fun c a w hq => by cases hd : (nthO l i).dst with | none => (rw [hd] at hq; exact hq) | some d => (rw [hd] at hq; exact hQ c a _ w hq)) hs hc hn hin (fun _ _ _ hL => seqB_ready hL.1) f listed a w inv (Region.free_spec hi hf) hr' hy hC
      (headS_of_tree hsel hQ hs hc hn rest f _ _ _ (inv.set hr' hin) hB' hC h')
  | .step i false rest, f + 1, listed, a, w, inv, hB, hC, h => by
    simp only [schT, Bool.and_eq_true, decide_eq_true_eq, Nat.add_sub_cancel] at hB
    obtain ⟨_, ⟨hin, hr⟩, hB'⟩ := hB
    have hi : l.toArray[i]? = some (nthO l i) := by
      rw [List.getElem?_toArray]
      exact nthO_eq (by simp at hn; omega)
    refine ⟨by rw [hr]; simp, fun j hj => ?_⟩
    have hji : j = i := by rw [hr] at hj; simpa using hj
    subst hji
    refine ⟨hin, ?_⟩
    unfold wpOp
    simp only [hi]
    simp only [wpT] at h
    split
    · rename_i hw
      rw [if_pos hw] at h
      refine .inl (Oper.wp_mono (fun a' w' h' => ⟨h'.1, headS_of_tree hsel hQ hs hc hn rest f _ _ _ (inv.set (by rw [hr]; simp) hin) hB' h'.1 h'.2⟩) h)
    · rename_i hw
      rw [if_neg hw] at h
      exact ⟨hC, headS_of_tree hsel hQ hs hc hn rest f _ _ _ (inv.set (by rw [hr]; simp) hin) hB' hC h⟩
  | .fork i ki j kj, f + 1, listed, a, w, inv, hB, hC, h => by
    simp only [schT, Bool.and_eq_true, decide_eq_true_eq, Nat.add_sub_cancel] at hB
    obtain ⟨_, ⟨⟨⟨hin, hjn⟩, hr⟩, hBi⟩, hBj⟩ := hB
    have hi : l.toArray[i]? = some (nthO l i) := by
      rw [List.getElem?_toArray]
      exact nthO_eq (by simp at hn; omega)
    have hj : l.toArray[j]? = some (nthO l j) := by
      rw [List.getElem?_toArray]
      exact nthO_eq (by simp at hn; omega)
    refine ⟨by rw [hr]; simp, fun x hx => ?_⟩
    have hxij : x = i ∨ x = j := by rw [hr] at hx; simpa using hx
    simp only [wpT] at h
    rcases hxij with rfl | rfl
    · refine ⟨hin, ?_⟩
      replace h := h.1
      unfold wpOp
      simp only [hi]
      split
      · rename_i hw
        rw [if_pos hw] at h
        refine .inl (Oper.wp_mono (fun a' w' h' => ⟨h'.1, headS_of_tree hsel hQ hs hc hn ki f _ _ _ (inv.set hx hin) hBi h'.1 h'.2⟩) h)
      · rename_i hw
        rw [if_neg hw] at h
        exact ⟨hC, headS_of_tree hsel hQ hs hc hn ki f _ _ _ (inv.set hx hin) hBi hC h⟩
    · refine ⟨hjn, ?_⟩
      replace h := h.2
      unfold wpOp
      simp only [hj]
      split
      · rename_i hw
        rw [if_pos hw] at h
        refine .inl (Oper.wp_mono (fun a' w' h' => ⟨h'.1, headS_of_tree hsel hQ hs hc hn kj f _ _ _ (inv.set hx hjn) hBj h'.1 h'.2⟩) h)
      · rename_i hw
        rw [if_neg hw] at h
        exact ⟨hC, headS_of_tree hsel hQ hs hc hn kj f _ _ _ (inv.set hx hjn) hBj hC h⟩

theorem wp_region_tree {id : Nat} {a : Act} {w : World} {l : List Oper} (n : Nat) (sched : Sch) (hm : P.follows .mixedOrders = true)
    (hB : (Region.noSelect l.toArray && decide (n < l.toArray.size) && Region.sinkB .any l.toArray n && Region.chainB .any l.toArray n && schT .any l.toArray n (l.toArray.size - n) sched n (Array.replicate l.toArray.size false)) = true)
    (hQ : ∀ c (a : Act) (t : Array Value) w, Q (.panic c) { a with tmps := t } w → Q (.panic c) a w) (hC : C { w with drawn := w.drawn + 1 })
    (h : wpT P l Q C (fun a' w' => wpList P l.toArray Q (l.drop n) a' w') sched a { w with drawn := w.drawn + 1 }) : (Code.region id l.toArray true).wp P Q a w := by
  simp only [Bool.and_eq_true, decide_eq_true_eq] at hB
  obtain ⟨⟨⟨⟨hsel, hn⟩, hs⟩, hc⟩, hsc⟩ := hB
  have hn' : n < l.length := by simpa using hn
  have hdl : (l.drop n).length = l.toArray.size - n := by simp
  have inv0 : HeadInv .any l.toArray n (Array.replicate l.toArray.size false) :=
    ⟨by simp, fun j oj _ hl => (by rw [getD_replicate_false] at hl; cases hl), fun t _ ht => getD_in (by simpa using ht) (getD_replicate_false _ _)⟩
  have H := headS_of_tree (md := .any) hsel hQ hs hc hn sched n _ a _ inv0 hsc hC h
  refine wp_region_any hm ?_
  have := wpAny_of_headS (m := l.toArray.size - n) (fun listed a' w' hL => by
    have := wpAny_of_seq (md := .any) (Q' := Q) (l.drop n) n listed a' w' (fun j => by simp [List.getElem?_drop]) (by rw [hdl]; exact hL.1) hL.2
    rwa [hdl] at this) _ _ _ _ H
  rw [show n + (l.toArray.size - n) = l.toArray.size by omega] at this
  exact this
end

def JF (P : Program) (n : Nat) (Q : Exit → Act → World → Prop) (C W : World → Prop) (l tail : List Oper) (s : Sch) (E : Env) : Prop := ∀ a w, Holds n E a → W w → wpT P l Q C (fun a' w' => wpList P l.toArray Q tail a' w') s a w
section
variable {P : Program} {n : Nat} {E : Env} {C W : World → Prop} {Q : Exit → Act → World → Prop} {l tail : List Oper} {k : Sch} {i d : Nat} {o : Oper} {v : Value}
theorem jc_tree [Mixed P] {id : Nat} {l : List Oper} (m : Nat) (sched : Sch)
    (hB : (Region.noSelect l.toArray && decide (m < l.toArray.size) && Region.sinkB .any l.toArray m && Region.chainB .any l.toArray m && schT .any l.toArray m (l.toArray.size - m) sched m (Array.replicate l.toArray.size false)) = true)
    (hQ : ∀ c (a : Act) (t : Array Value) w, Q (.panic c) { a with tmps := t } w → Q (.panic c) a w) (hC : ∀ w, W w → W w.drew) (h : JF P n Q W W l (l.drop m) sched E) : JC P n Q W (.region id l.toArray true) E := fun a w ha hw =>
  wp_region_tree (C := W) m sched Mixed.h hB hQ (hC w hw) (h a _ ha (hC w hw))
theorem jf_nil (h : JL P n Q W l.toArray tail E) : JF P n Q C W l tail .nil E := fun a w ha hw => h a w ha hw
theorem jf_take (ho : nthO l i = o) (hd : o.dst = some d) (hn : d < n) (hg : want l.toArray E o = some true) (hy : Yields P n E C o v) (h : JF P n Q C W l tail k ((d, v) :: E)) : JF P n Q C W l tail (.step i true k) E := fun a w ha hw => by
  subst ho
  exact ⟨v, .inl ⟨want_spec ha hg, fun w' hw' => hy a w' ha hw'⟩, by rw [hd]; exact h _ _ (ha.put hn v) hw⟩
theorem jf_take_skip (ho : nthO l i = o) (hd : o.dst = some d) (hn : d < n) (hg : want l.toArray E o = some false) (h : JF P n Q C W l tail k ((d, undef) :: E)) : JF P n Q C W l tail (.step i true k) E := fun a w ha hw => by
  subst ho
  exact ⟨undef, .inr ⟨want_spec ha hg, rfl⟩, by rw [hd]; exact h _ _ (ha.put hn undef) hw⟩
theorem jf_skip (ho : nthO l i = o) (hd : o.dst = some d) (hn : d < n) (hg : want l.toArray E o = some false) (h : JF P n Q C W l tail k ((d, undef) :: E)) : JF P n Q C W l tail (.step i false k) E := fun a w ha hw => by
  subst ho
  show (if Region.wanted _ (yielded l.toArray a.tmps) then _ else _)
  rw [if_neg (by rw [want_spec ha hg]; simp), hd]
  exact h _ _ (ha.put hn undef) hw
theorem jf_y (hW : ∀ w, W w → C w) (ho : nthO l i = o) (hd : o.dst = some d) (hn : d < n) (hg : want l.toArray E o = some true) (hy : Yields P n E W o v) (h : JF P n Q C W l tail k ((d, v) :: E)) : JF P n Q C W l tail (.step i false k) E := fun a w ha hw => by
  subst ho
  show (if Region.wanted _ (yielded l.toArray a.tmps) then _ else _)
  rw [if_pos (want_spec ha hg)]
  unfold Oper.wp
  rw [hy a w ha hw, Oper.upon_value, hd]
  exact ⟨hW w hw, h _ _ (ha.put hn v) hw⟩
theorem jf_m {ι : Type} {v : ι → Value} {W' : ι → World → Prop} (hW : ∀ i w, W' i w → C w) (ho : nthO l i = o) (hd : o.dst = some d) (hn : d < n) (hg : want l.toArray E o = some true) (hy : Makes P n E W o v W') (h : ∀ i, JF P n Q C (W' i) l tail k ((d, v i) :: E)) : JF P n Q C W l tail (.step i false k) E := fun a w ha hw => by
  subst ho
  show (if Region.wanted _ (yielded l.toArray a.tmps) then _ else _)
  rw [if_pos (want_spec ha hg)]
  obtain ⟨x, w', hr, hw'⟩ := hy a w ha hw
  unfold Oper.wp
  rw [hr, Oper.upon_value, hd]
  exact ⟨hW x w' hw', h x _ _ (ha.put hn _) hw'⟩
theorem jf_m3 {ι κ μ : Type} {v : ι → κ → μ → Value} {W' : ι → κ → μ → World → Prop} (hW : ∀ i j l w, W' i j l w → C w) (ho : nthO l i = o) (hd : o.dst = some d) (hn : d < n) (hg : want l.toArray E o = some true) (hy : Makes3 P n E W o v W') (h : ∀ i j l', JF P n Q C (W' i j l') l tail k ((d, v i j l') :: E)) : JF P n Q C W l tail (.step i false k) E :=
  jf_m (ι := ι × κ × μ) (v := fun i => v i.1 i.2.1 i.2.2) (W' := fun i => W' i.1 i.2.1 i.2.2) (fun i => hW i.1 i.2.1 i.2.2) ho hd hn hg (fun a w ha hw => let ⟨i, j, l, w', h⟩ := hy a w ha hw; ⟨(i, j, l), w', h⟩) fun i => h i.1 i.2.1 i.2.2
theorem jf_call {ι : Type} {f : Nat} {args : Array Value} {v : ι → Value} {W' : ι → World → Prop} (hW : ∀ i w, W' i w → C w) (ho : nthO l i = o) (hd : o.dst = some d) (hn : d < n) (hg : want l.toArray E o = some true) (hf : Goes P n E o f args)
    (hc : ∀ w, W w → Calls P f args w fun e w' => ∃ i, e = .returned (v i) ∧ W' i w') (h : ∀ i, JF P n Q C (W' i) l tail k ((d, v i) :: E)) : JF P n Q C W l tail (.step i false k) E := fun a w ha hw => by
  subst ho
  show (if Region.wanted _ (yielded l.toArray a.tmps) then _ else _)
  rw [if_pos (want_spec ha hg)]
  unfold Oper.wp
  rw [hf a w ha, Oper.upon_enter]
  refine (hc w hw).mono ?_
  rintro e w' ⟨x, rfl, hw'⟩
  rw [hd]
  exact ⟨hW x w' hw', h x _ _ (ha.put hn _) hw'⟩
theorem jf_pcall {f : Nat} {args : Array Value} (hW : ∀ w, W w → C w) (ho : nthO l i = o) (hd : o.dst = some d) (hn : d < n) (hg : want l.toArray E o = some true) (hf : Goes P n E o f args)
    (hc : ∀ w, W w → Calls P f args w fun e w' => e = .returned v ∧ W w') (h : JF P n Q C W l tail k ((d, v) :: E)) : JF P n Q C W l tail (.step i false k) E :=
  jf_call (ι := Unit) (v := fun _ => v) (W' := fun _ => W) (fun _ w h => hW w h) ho hd hn hg hf (fun w hw => (hc w hw).mono fun _ _ h => ⟨(), h⟩) fun _ => h
theorem jf_fcall {w0 : World} {S : List Nat} {H : List HA} {f : Nat} {args : Array Value} {ι : Type} {v : ι → Value} {A : ι → HA} (hW : ∀ b w, Hp w0 S (A b :: H) w → C w) (ho : nthO l i = o) (hd : o.dst = some d) (hn : d < n) (hg : want l.toArray E o = some true) (hf : Goes P n E o f args)
    (hc : ∀ w, Hp w0 S H w → Calls P f args w fun e w' => ∃ b, e = .returned (v b) ∧ Fresh w w' (A b)) (h : ∀ b, JF P n Q C (Hp w0 S (A b :: H)) l tail k ((d, v b) :: E)) : JF P n Q C (Hp w0 S H) l tail (.step i false k) E :=
  jf_call (v := v) (W' := fun b => Hp w0 S (A b :: H)) hW ho hd hn hg hf (fun w hw => (hc w hw).mono fun _ _ ⟨b, he, h⟩ => ⟨b, he, h.hp hw⟩) h
theorem jf_fork {j : Nat} {kj : Sch} (h1 : JF P n Q C W l tail (.step i false k) E) (h2 : JF P n Q C W l tail (.step j false kj) E) : JF P n Q C W l tail (.fork i k j kj) E := fun a w ha hw => ⟨h1 a w ha hw, h2 a w ha hw⟩
theorem jf_as {u : Value} (e : v = u) (h : JF P n Q C W l tail k ((d, u) :: E)) : JF P n Q C W l tail k ((d, v) :: E) := e ▸ h
theorem jf_bool {b : Bool} (h1 : b = true → JF P n Q C W l tail k ((d, .bool true) :: E)) (h2 : b = false → JF P n Q C W l tail k ((d, .bool false) :: E)) : JF P n Q C W l tail k ((d, .bool b) :: E) := by
  cases b
  · exact h2 rfl
  · exact h1 rfl
theorem jf_prop {p : Prop} [Decidable p] (h1 : p → JF P n Q C W l tail k ((d, .bool true) :: E)) (h2 : ¬ p → JF P n Q C W l tail k ((d, .bool false) :: E)) : JF P n Q C W l tail k ((d, .bool (decide p)) :: E) :=
  jf_bool (fun h => h1 (of_decide_eq_true h)) (fun h => h2 (of_decide_eq_false h))
end
end Go.Proofs.YtghomncegjamfaaGreat
