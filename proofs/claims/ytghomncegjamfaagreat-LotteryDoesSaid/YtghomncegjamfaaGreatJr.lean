/- The calculus, part sixteen: a region that draws its order, none of whose operations writes to a block that is there: each operation is walked once, in the text's order. -/
import Derived.Test.YtghomncegjamfaaGreatJq
namespace Go.Proofs.YtghomncegjamfaaGreat
open Go.RowKit

/-- What is known of a slot's value: what it is; or that it is one of a kind, and what the blocks hold that it brings. -/
inductive Kn where
  | is (v : Value)
  | own (ι : Type) (v : ι → Value) (As : ι → List HA)
def Kn.ok : Kn → Value → World → Prop
  | .is v, u, _ => u = v
  | .own _ v As, u, w => ∃ b, u = v b ∧ ∀ A ∈ As b, A.ok w
theorem HA.ch {w w' : World} {A : HA} (h : A.ok w) (hc : Ch [] w w') : A.ok w' := HA.kept h fun k hk => hc.block k (HA.lt h hk) (by simp)
theorem Kn.ch {kn : Kn} {v : Value} {w w' : World} (h : kn.ok v w) (hc : Ch [] w w') : kn.ok v w' := by
  cases kn with
  | is u => exact h
  | own ι u As => obtain ⟨b, e, hA⟩ := h; exact ⟨b, e, fun A hm => HA.ch (hA A hm) hc⟩
abbrev Kns := List (Nat × Nat × Kn)
def pk : Kns → Nat → Option (Nat × Kn)
  | [], _ => none
  | (i, d, k) :: F, j => bif Nat.beq i j then some (d, k) else pk F j
/-- With what is known of these operations' slots. -/
def Given (w : World) (F : Kns) (G : Env → Prop) : List Nat → Env → Prop
  | [], E => G E
  | j :: D, E => match pk F j with
    | none => False
    | some (d, .is v) => Given w F G D ((d, v) :: E)
    | some (d, .own ι v As) => ∀ b : ι, (∀ A ∈ As b, A.ok w) → Given w F G D ((d, v b) :: E)
def boundB (o : Oper) (D : List Nat) : Bool := D.all fun j => o.after.toList.any fun e => Nat.beq e.on j && Region.binds .any e
/-- What an operation brings: all blocks stay as they are, and these are new. -/
def Kn.new : Kn → Value → World → World → Prop
  | .is v, u, w, w' => u = v ∧ Ch [] w w'
  | .own _ v As, u, w, w' => ∃ b, u = v b ∧ Hp w [] (As b) w'
theorem Kn.new_ch {kn : Kn} {v : Value} {w w' : World} (h : kn.new v w w') : Ch [] w w' := by
  cases kn with
  | is u => exact h.2
  | own ι u As => obtain ⟨b, _, h⟩ := h; exact h.ch
theorem Kn.new_ok {kn : Kn} {v : Value} {w w' : World} (h : kn.new v w w') : kn.ok v w' := by
  cases kn with
  | is u => exact h.1
  | own ι u As => obtain ⟨b, e, h⟩ := h; exact ⟨b, e, h.ok⟩
/-- The operation yields a value of which this is known, or none is wanted; all blocks stay as they are. -/
def DoesAt (P : Program) (ops : Array Oper) (o : Oper) (a : Act) (w : World) (kn : Kn) : Prop :=
  (Region.wanted o (yielded ops a.tmps) = true ∧
    ((∃ v w', (execOp a.eval o).run P w = .ok (.value v) w' ∧ kn.new v w w') ∨
     ∃ f args, (execOp a.eval o).run P w = .ok (.enter f args) w ∧ Calls P f args w fun e w' => ∃ v, e = .returned v ∧ kn.new v w w')) ∨
  (Region.wanted o (yielded ops a.tmps) = false ∧ kn.new undef w w)
inductive JN (P : Program) (n : Nat) (Q : Exit → Act → World → Prop) (K : World → Prop) (ops : Array Oper) (E : Env) : Kns → Nat → List Oper → Prop where
  | nil {F : Kns} {i : Nat} (D : List Nat) (hD : ∀ j ∈ D, j < i) (h : ∀ w, K w → Given w F (fun E' => ∀ a, Holds n E' a → Q .normal a w) D E) : JN P n Q K ops E F i []
  | step {F : Kns} {i : Nat} {o : Oper} {rest : List Oper} {d : Nat} {kn : Kn} (D : List Nat) (hd : o.dst = some d) (hD : boundB o D = true) (h : ∀ w, K w → Given w F (fun E' => ∀ a, Holds n E' a → DoesAt P ops o a w kn) D E) (k : JN P n Q K ops E ((i, d, kn) :: F) (i + 1) rest) : JN P n Q K ops E F i (o :: rest)

section
variable {P : Program} {n : Nat} {Q : Exit → Act → World → Prop} {K : World → Prop} {ops : Array Oper} {E : Env} {F : Kns} {i d : Nat} {o : Oper} {rest : List Oper} {v u : Value} {w : World} {a : Act}

theorem Holds.cons (h : Holds n E a) (hv : a.tmps[d]? = some v) : Holds n ((d, v) :: E) a := ⟨h.nodef, h.size, fun j x hx => by
  unfold lk at hx
  cases hb : Nat.beq d j
  · rw [hb] at hx; exact h.slot j x hx
  · rw [hb] at hx
    have := Nat.eq_of_beq_eq_true hb
    subst this
    cases hx
    exact hv⟩
theorem Given.mono {G G' : Env → Prop} (hG : ∀ E, G E → G' E) : ∀ {D : List Nat} {E : Env}, Given w F G D E → Given w F G' D E
  | [], E, h => hG _ h
  | j :: D, E, h => by
    unfold Given at h ⊢
    split at h
    · exact h
    · exact Given.mono hG h
    · exact fun b hb => Given.mono hG (h b hb)
theorem Given.elim {G : Env → Prop} : ∀ {D : List Nat} {E : Env}, Given w F G D E → Holds n E a → (∀ j ∈ D, ∀ d kn, pk F j = some (d, kn) → ∃ v, a.tmps[d]? = some v ∧ kn.ok v w) → ∃ E', Holds n E' a ∧ G E'
  | [], E, h, ha, _ => ⟨E, ha, h⟩
  | j :: D, E, h, ha, hk => by
    unfold Given at h
    split at h
    · exact h.elim
    · rename_i d v hp
      obtain ⟨x, hx, hok⟩ := hk j (.head _) _ _ hp
      have hxv : x = v := hok
      subst hxv
      exact Given.elim h (ha.cons hx) fun j hj => hk j (.tail _ hj)
    · rename_i d ι v As hp
      obtain ⟨x, hx, b, e, hA⟩ := hk j (.head _) _ _ hp
      subst e
      exact Given.elim (h b hA) (ha.cons hx) fun j hj => hk j (.tail _ hj)

/-! ### The steps -/
theorem jn_y (D : List Nat) (hd : o.dst = some d) (hD : boundB o D = true) (h : ∀ w1, K w1 → Given w1 F (fun E' => want ops E' o = some true ∧ Yields P n E' (Hp w1 [] []) o v) D E) (k : JN P n Q K ops E ((i, d, .is v) :: F) (i + 1) rest) : JN P n Q K ops E F i (o :: rest) :=
  .step D hd hD (fun w hw => Given.mono (fun E' hE a ha => .inl ⟨want_spec ha hE.1, .inl ⟨v, w, hE.2 a w ha (Hp.nil w []), rfl, Ch.refl _ _⟩⟩) (h w hw)) k
theorem jn_skip (D : List Nat) (hd : o.dst = some d) (hD : boundB o D = true) (h : ∀ w1, K w1 → Given w1 F (fun E' => want ops E' o = some false) D E) (k : JN P n Q K ops E ((i, d, .is undef) :: F) (i + 1) rest) : JN P n Q K ops E F i (o :: rest) :=
  .step D hd hD (fun w hw => Given.mono (fun E' hE a ha => .inr ⟨want_spec ha hE, rfl, Ch.refl _ _⟩) (h w hw)) k
theorem jn_m {ι : Type} {v : ι → Value} {A : ι → HA} (D : List Nat) (hd : o.dst = some d) (hD : boundB o D = true) (h : ∀ w1, K w1 → Given w1 F (fun E' => want ops E' o = some true ∧ Makes P n E' (Hp w1 [] []) o v (fun b => Hp w1 [] [A b])) D E) (k : JN P n Q K ops E ((i, d, .own ι v fun b => [A b]) :: F) (i + 1) rest) : JN P n Q K ops E F i (o :: rest) :=
  .step D hd hD (fun w hw => Given.mono (fun E' hE a ha => by
    obtain ⟨b, w', hr, hw'⟩ := hE.2 a w ha (Hp.nil w [])
    exact .inl ⟨want_spec ha hE.1, .inl ⟨v b, w', hr, b, rfl, hw'⟩⟩) (h w hw)) k
theorem jn_call (D : List Nat) (hd : o.dst = some d) (hD : boundB o D = true) (h : ∀ w1, K w1 → Given w1 F (fun E' => want ops E' o = some true ∧ ∃ f args, Goes P n E' o f args ∧ Calls P f args w1 fun e w' => e = .returned v ∧ Ch [] w1 w') D E) (k : JN P n Q K ops E ((i, d, .is v) :: F) (i + 1) rest) : JN P n Q K ops E F i (o :: rest) :=
  .step D hd hD (fun w hw => Given.mono (fun E' hE a ha => by
    obtain ⟨hg, f, args, h1, h2⟩ := hE
    exact .inl ⟨want_spec ha hg, .inr ⟨f, args, h1 a w ha, h2.mono fun e w' h => ⟨v, h.1, rfl, h.2⟩⟩⟩) (h w hw)) k
theorem jn_gcall {ι : Type} {v : ι → Value} {As : ι → List HA} (D : List Nat) (hd : o.dst = some d) (hD : boundB o D = true) (h : ∀ w1, K w1 → Given w1 F (fun E' => want ops E' o = some true ∧ ∃ f args, Goes P n E' o f args ∧ Calls P f args w1 fun e w' => ∃ b, e = .returned (v b) ∧ Hp w1 [] (As b) w') D E) (k : JN P n Q K ops E ((i, d, .own ι v As) :: F) (i + 1) rest) : JN P n Q K ops E F i (o :: rest) :=
  .step D hd hD (fun w hw => Given.mono (fun E' hE a ha => by
    obtain ⟨hg, f, args, h1, h2⟩ := hE
    exact .inl ⟨want_spec ha hg, .inr ⟨f, args, h1 a w ha, h2.mono fun e w' ⟨b, h3, h4⟩ => ⟨v b, h3, b, rfl, h4⟩⟩⟩) (h w hw)) k
theorem jn_fcall {ι : Type} {v : ι → Value} {A : ι → HA} (D : List Nat) (hd : o.dst = some d) (hD : boundB o D = true) (h : ∀ w1, K w1 → Given w1 F (fun E' => want ops E' o = some true ∧ ∃ f args, Goes P n E' o f args ∧ Calls P f args w1 fun e w' => ∃ b, e = .returned (v b) ∧ Fresh w1 w' (A b)) D E) (k : JN P n Q K ops E ((i, d, .own ι v fun b => [A b]) :: F) (i + 1) rest) : JN P n Q K ops E F i (o :: rest) :=
  jn_gcall D hd hD (fun w hw => Given.mono (fun E' ⟨hg, f, args, h1, h2⟩ => ⟨hg, f, args, h1, h2.mono fun e w' ⟨b, h3, h4⟩ => ⟨b, h3, h4.hp (Hp.nil w [])⟩⟩) (h w hw)) k
theorem jn_as (e : v = u) (h : JN P n Q K ops E ((i, d, .is u) :: F) (i + 1) rest) : JN P n Q K ops E ((i, d, .is v) :: F) (i + 1) rest := e ▸ h
theorem jn_nil (D : List Nat) (hD : ∀ j ∈ D, j < i) (h : ∀ w1, K w1 → Given w1 F (fun E' => ∀ a, Holds n E' a → Q .normal a w1) D E) : JN P n Q K ops E F i [] := .nil D hD h

/-! ### Any order -/
theorem pk_cons_ne {F : Kns} {i j d : Nat} {kn : Kn} (h : i ≠ j) : pk ((i, d, kn) :: F) j = pk F j := by
  have : Nat.beq i j = false := by
    cases hb : Nat.beq i j
    · rfl
    · exact absurd (Nat.eq_of_beq_eq_true hb) h
  show (bif Nat.beq i j then some (d, kn) else pk F j) = _
  rw [this]; rfl
theorem pk_cons_eq {F : Kns} {i d : Nat} {kn : Kn} : pk ((i, d, kn) :: F) i = some (d, kn) := by
  show (bif Nat.beq i i then some (d, kn) else pk F i) = _
  rw [Nat.beq_refl]; rfl
theorem Given.grow {F F' : Kns} {G : Env → Prop} (hF : ∀ j x, pk F j = some x → pk F' j = some x) : ∀ {D : List Nat} {E : Env}, Given w F G D E → Given w F' G D E
  | [], E, h => h
  | j :: D, E, h => by
    unfold Given at h
    cases hp : pk F j with
    | none => rw [hp] at h; exact h.elim
    | some x =>
      obtain ⟨d, kn⟩ := x
      rw [hp] at h
      unfold Given
      rw [hF j _ hp]
      cases kn with
      | is v => exact Given.grow hF h
      | own ι v As => exact fun b hb => Given.grow hF (h b hb)
/-- The table of all that is known behind the operations. -/
theorem JN.table {F : Kns} {i : Nat} {rest : List Oper} (h : JN P n Q K ops E F i rest) : (∀ j x, pk F j = some x → j < i) → ∃ F', (∀ j x, pk F j = some x → pk F' j = some x) ∧ (∀ j x, pk F' j = some x → j < i + rest.length) ∧
    (∀ k o, rest[k]? = some o → ∃ d kn D, o.dst = some d ∧ boundB o D = true ∧ pk F' (i + k) = some (d, kn) ∧ ∀ w, K w → Given w F' (fun E' => ∀ a, Holds n E' a → DoesAt P ops o a w kn) D E) ∧
    ∃ D, (∀ j ∈ D, j < i + rest.length) ∧ ∀ w, K w → Given w F' (fun E' => ∀ a, Holds n E' a → Q .normal a w) D E := by
  induction h with
  | @nil F i D hD h => exact fun hF => ⟨F, fun _ _ h => h, hF, fun k o hk => by simp at hk, D, hD, h⟩
  | @step F i o rest d kn D hd hD h k ih =>
    intro hF
    have hF1 : ∀ j x, pk F j = some x → pk ((i, d, kn) :: F) j = some x := fun j x hx => by rw [pk_cons_ne (fun e => by have := hF j x hx; omega)]; exact hx
    obtain ⟨F', h1, h2, h3, D', h4, h5⟩ := ih fun j x hx => by
      by_cases he : i = j
      · omega
      · rw [pk_cons_ne he] at hx; have := hF j x hx; omega
    refine ⟨F', fun j x hx => h1 j x (hF1 j x hx), fun j x hx => by have := h2 j x hx; simp only [List.length_cons]; omega, ?_, D', fun j hj => by have := h4 j hj; simp only [List.length_cons]; omega, h5⟩
    intro m o' hm
    cases m with
    | zero =>
      simp only [List.getElem?_cons_zero, Option.some.injEq] at hm
      subst hm
      exact ⟨d, kn, D, hd, hD, h1 _ _ pk_cons_eq, fun w hw => Given.grow (fun j x hx => h1 j x (hF1 j x hx)) (h w hw)⟩
    | succ m =>
      rw [List.getElem?_cons_succ] at hm
      obtain ⟨d', kn', D', g1, g2, g3, g4⟩ := h3 m o' hm
      exact ⟨d', kn', D', g1, g2, by rw [show i + (m + 1) = i + 1 + m by omega]; exact g3, g4⟩
/-- What the orders need to be told: every operation has a slot of its own, that nothing of E speaks of, and waits for earlier ones alone. -/
def slotsB (l : List Oper) : List Nat := l.map (·.dst.getD 0)
def freshB (n : Nat) : List Nat → Bool
  | [] => true
  | d :: l => Nat.blt d n && l.all (fun e => !Nat.beq d e) && freshB n l
def downB : Nat → List Oper → Bool
  | _, [] => true
  | i, o :: l => (o.after.all fun e => Nat.blt e.on i) && downB (i + 1) l
def freeB (n : Nat) (l : List Oper) (E : Env) : Bool := l.all (fun o => o.dst.isSome) && freshB n (slotsB l) && downB 0 l && E.all fun p => (slotsB l).all fun d => !Nat.beq p.1 d
theorem Holds.putO (h : Holds n E a) {d : Nat} {v : Value} (hE : ∀ p ∈ E, p.1 ≠ d) : Holds n E (a.put (some d) v) := ⟨h.nodef, by simp [Act.put, h.size], fun j x hx => by
  have hj : j ≠ d := by
    have : ∀ {E : Env}, lk E j = some x → ∃ p ∈ E, p.1 = j := by
      intro E
      induction E with
      | nil => intro h; cases h
      | cons p E ih =>
        intro h
        unfold lk at h
        cases hb : Nat.beq p.1 j
        · rw [hb] at h
          obtain ⟨q, hq, e⟩ := ih h
          exact ⟨q, .tail _ hq, e⟩
        · exact ⟨p, .head _, Nat.eq_of_beq_eq_true hb⟩
    obtain ⟨p, hp, e⟩ := this hx
    exact fun e2 => hE p hp (e.trans e2)
  show (a.tmps.setIfInBounds d v)[j]? = some x
  rw [Array.getElem?_setIfInBounds, if_neg (fun e => hj e.symm)]
  exact h.slot j x hx⟩
theorem anyA {α : Type} {xs : Array α} {p : α → Bool} (h : xs.any p = true) : ∃ x ∈ xs, p x = true := by
  obtain ⟨i, hi, h1⟩ := Array.any_eq_true.1 h
  exact ⟨xs[i], Array.getElem_mem hi, h1⟩
theorem freshB_spec : ∀ {l : List Nat}, freshB n l = true → l.Pairwise (· ≠ ·) ∧ ∀ d ∈ l, d < n
  | [], _ => ⟨.nil, fun d hd => by cases hd⟩
  | d :: l, h => by
    simp only [freshB, Bool.and_eq_true, List.all_eq_true, Bool.not_eq_true'] at h
    obtain ⟨⟨h1, h2⟩, h3⟩ := h
    obtain ⟨h4, h5⟩ := freshB_spec h3
    refine ⟨List.pairwise_cons.2 ⟨fun e he => Nat.ne_of_beq_eq_false (h2 e he), h4⟩, fun e he => ?_⟩
    rcases List.mem_cons.1 he with rfl | he
    · exact Nat.le_of_ble_eq_true h1
    · exact h5 e he
theorem downB_spec : ∀ {l : List Oper} {i : Nat}, downB i l = true → ∀ k o, l[k]? = some o → ∀ e ∈ o.after, e.on < i + k
  | [], _, _, k, o, h => by simp at h
  | o' :: l, i, h, k, o, hk => by
    simp only [downB, Bool.and_eq_true] at h
    cases k with
    | zero =>
      simp only [List.getElem?_cons_zero, Option.some.injEq] at hk
      subst hk
      intro e he
      exact Nat.le_of_ble_eq_true (Array.all_eq_true_iff_forall_mem.1 h.1 e he)
    | succ k =>
      rw [List.getElem?_cons_succ] at hk
      intro e he
      have := downB_spec h.2 k o hk e he
      omega
def leftN (listed : Array Bool) : Nat := listed.toList.countP (fun b => !b)
theorem left_set {listed : Array Bool} {i : Nat} (h : listed.getD i true = false) : leftN (listed.setIfInBounds i true) + 1 = leftN listed := by
  have hi : i < listed.size := by
    rcases Nat.lt_or_ge i listed.size with h1 | h1
    · exact h1
    · simp [Array.getD, Nat.not_lt.2 h1] at h
  have hv : listed[i] = false := by simpa [Array.getD, hi] using h
  unfold leftN
  rw [Array.toList_setIfInBounds, List.countP_set (by simpa using hi)]
  have hpos : 0 < listed.toList.countP (fun b => !b) := List.countP_pos_iff.2 ⟨false, by rw [← hv]; simp, rfl⟩
  simp only [Array.getElem_toList, hv, Bool.not_false, Bool.not_true, if_true, if_false, Bool.false_eq_true]
  omega
theorem left_none {listed : Array Bool} (h : leftN listed = 0) (i : Nat) : listed.getD i true = true := by
  rcases Nat.lt_or_ge i listed.size with h1 | h1
  · have := List.countP_eq_zero.1 h (listed[i]) (by simp)
    simpa [Array.getD, h1] using this
  · simp [Array.getD, Nat.not_lt.2 h1]
structure InvN (l : List Oper) (n : Nat) (E : Env) (K : World → Prop) (F' : Kns) (listed : Array Bool) (a : Act) (w : World) : Prop where
  size : listed.size = l.length
  holds : Holds n E a
  world : K w
  slots : ∀ i d kn, listed.getD i false = true → pk F' i = some (d, kn) → ∃ v, a.tmps[d]? = some v ∧ kn.ok v w
theorem getD_two {listed : Array Bool} {i : Nat} (hi : i < listed.size) : listed.getD i true = listed.getD i false := by simp [Array.getD, hi]
theorem wpAny_of_table {l : List Oper} {F' : Kns} (hB : freeB n l E = true) (hK : ∀ w w', K w → Ch [] w w' → K w') (hlt : ∀ j x, pk F' j = some x → j < l.length)
    (tbl : ∀ k o, l[k]? = some o → ∃ d kn D, o.dst = some d ∧ boundB o D = true ∧ pk F' k = some (d, kn) ∧ ∀ w, K w → Given w F' (fun E' => ∀ a, Holds n E' a → DoesAt P l.toArray o a w kn) D E)
    {D : List Nat} (hD : ∀ j ∈ D, j < l.length) (fin : ∀ w, K w → Given w F' (fun E' => ∀ a, Holds n E' a → Q .normal a w) D E) :
    ∀ (fuel : Nat) (listed : Array Bool) (a : Act) (w : World), leftN listed ≤ fuel → InvN l n E K F' listed a w → wpAny P .any l.toArray Q fuel listed a w := by
  simp only [freeB, Bool.and_eq_true] at hB
  obtain ⟨⟨⟨hsome, hfresh⟩, hdown⟩, hE⟩ := hB
  obtain ⟨hpw, hn⟩ := freshB_spec hfresh
  have hdst : ∀ (k : Nat) (o : Oper) (d : Nat), l[k]? = some o → o.dst = some d → (slotsB l)[k]? = some d := fun k o d hk hd => by simp [slotsB, hk, hd]
  have hall : ∀ listed a w, leftN listed = 0 → InvN l n E K F' listed a w → Q .normal a w := by
    intro listed a w h0 inv
    obtain ⟨E', h1, h2⟩ := Given.elim (fin w inv.world) inv.holds (fun j hj d kn hp => inv.slots j d kn (by
      have := left_none h0 j
      rwa [getD_two (by rw [inv.size]; exact hD j hj)] at this) hp)
    exact h2 a h1
  have hnil : ∀ listed a w, InvN l n E K F' listed a w → Region.ready .any l.toArray listed = [] → leftN listed = 0 := by
    intro listed a w inv hr
    rcases Nat.eq_zero_or_pos (leftN listed) with h | h
    · exact h
    · exfalso
      have hex : ∀ m i, i < m → listed.getD i true = false → ∃ j ∈ Region.ready .any l.toArray listed, True := by
        intro m
        induction m with
        | zero => intro i hi; omega
        | succ m ih =>
          intro i hi hf
          have hil : i < listed.size := by
            rcases Nat.lt_or_ge i listed.size with h1 | h1
            · exact h1
            · simp [Array.getD, Nat.not_lt.2 h1] at hf
          have hil' : i < l.length := by rw [← inv.size]; exact hil
          by_cases hrd : ∀ e ∈ (l[i]).after, Region.binds .any e = true → listed.getD e.on false = true
          · exact ⟨i, mem_ready.2 ⟨hf, l[i], by simp [hil'], hrd⟩, trivial⟩
          · simp only [Classical.not_forall] at hrd
            obtain ⟨e, he, _, hne⟩ := hrd
            have hlt := downB_spec hdown i l[i] (List.getElem?_eq_getElem hil') e he
            refine ih e.on (by omega) ?_
            rw [getD_two (by omega)]
            simpa using hne
      obtain ⟨b, hb, hf⟩ := List.countP_pos_iff.1 h
      obtain ⟨i, hi, hbi⟩ := List.getElem_of_mem hb
      have : listed.getD i true = false := by
        have hi' : i < listed.size := by simpa using hi
        have hbf : b = false := by simpa using hf
        subst hbf
        simpa [Array.getD, hi'] using hbi
      obtain ⟨j, hj, _⟩ := hex (i + 1) i (by omega) this
      rw [hr] at hj
      cases hj
  intro fuel
  induction fuel with
  | zero =>
    intro listed a w hm inv
    have h0 : leftN listed = 0 := by omega
    refine ⟨?_, hall listed a w h0 inv⟩
    apply List.eq_nil_iff_forall_not_mem.2
    intro i hi
    have := (mem_ready.1 hi).1
    rw [left_none h0 i] at this
    cases this
  | succ fuel ih =>
    intro listed a w hm inv
    refine ⟨fun hr => hall listed a w (hnil listed a w inv hr) inv, fun i hi => ?_⟩
    obtain ⟨hun, o, ho, hedges⟩ := mem_ready.1 hi
    have ho' : l[i]? = some o := by simpa using ho
    obtain ⟨d, kn, D', hd, hbD, hpk, hob⟩ := tbl i o ho'
    have hdl : d ∈ slotsB l := List.mem_of_getElem? (hdst i o d ho' hd)
    obtain ⟨E', hE1, hE2⟩ := Given.elim (hob w inv.world) inv.holds (fun j hj dj kj hp => inv.slots j dj kj (by
      obtain ⟨e, he0, hb⟩ := List.any_eq_true.1 (List.all_eq_true.1 hbD j hj)
      have he : e ∈ o.after := by simpa using he0
      simp only [Bool.and_eq_true] at hb
      have := hedges e he hb.2
      rwa [Nat.eq_of_beq_eq_true hb.1] at this) hp)
    have next : ∀ v w', Ch [] w w' → kn.ok v w' → wpAny P .any l.toArray Q fuel (listed.setIfInBounds i true) (a.put (some d) v) w' := by
      intro v w' hc hok
      refine ih _ _ _ (by have := left_set hun; omega) ⟨by simp [inv.size], inv.holds.putO (fun p hp e => ?_), hK w w' inv.world hc, ?_⟩
      · have := List.all_eq_true.1 (List.all_eq_true.1 hE p hp) d hdl
        rw [e, Nat.beq_refl] at this
        exact absurd this (by decide)
      · intro j dj kj hl hp
        by_cases hij : i = j
        · subst hij
          rw [hpk] at hp
          cases hp
          refine ⟨v, ?_, hok⟩
          show (a.tmps.setIfInBounds d v)[d]? = some v
          have : d < a.tmps.size := by rw [inv.holds.size]; exact hn d hdl
          simp [this]
        · have hl' : listed.getD j false = true := by rw [getD_set_ne false hij] at hl; exact hl
          obtain ⟨u, hu, hku⟩ := inv.slots j dj kj hl' hp
          refine ⟨u, ?_, Kn.ch hku hc⟩
          have hjl := hlt j _ hp
          obtain ⟨dj', kj', _, hdj, _, hpj, _⟩ := tbl j l[j] (List.getElem?_eq_getElem hjl)
          rw [hp] at hpj
          cases hpj
          have hne : d ≠ dj := by
            have h1 := hdst i o d ho' hd
            have h2 := hdst j l[j] dj (List.getElem?_eq_getElem hjl) hdj
            obtain ⟨i1, e1⟩ := List.getElem?_eq_some_iff.1 h1
            obtain ⟨j1, e2⟩ := List.getElem?_eq_some_iff.1 h2
            rcases Nat.lt_or_gt_of_ne hij with hlt' | hlt'
            · have := List.pairwise_iff_getElem.1 hpw i j i1 j1 hlt'
              rw [e1, e2] at this
              exact this
            · have := List.pairwise_iff_getElem.1 hpw j i j1 i1 hlt'
              rw [e1, e2] at this
              exact this.symm
          show (a.tmps.setIfInBounds d v)[dj]? = some u
          rw [Array.getElem?_setIfInBounds, if_neg hne]
          exact hu
    unfold wpOp
    simp only [ho]
    rcases hE2 a hE1 with ⟨hw, h⟩ | ⟨hw, h⟩
    · rw [if_pos hw]
      refine .inl ?_
      rcases h with ⟨v, w', hr, hok⟩ | ⟨f, args, hr, hcalls⟩
      · unfold Oper.wp
        rw [hr, Oper.upon_value, hd]
        exact next v w' (Kn.new_ch hok) (Kn.new_ok hok)
      · unfold Oper.wp
        rw [hr, Oper.upon_enter]
        refine hcalls.mono ?_
        rintro e w' ⟨v, rfl, hok⟩
        rw [hd]
        exact next v w' (Kn.new_ch hok) (Kn.new_ok hok)
    · rw [if_neg (by rw [hw]; simp), hd]
      exact next undef w (Ch.refl _ _) (Kn.new_ok h)
theorem jc_free [Mixed P] {id : Nat} {l : List Oper} (hB : freeB n l E = true) (hK : ∀ w w', K w → Ch [] w w' → K w') (h : JN P n Q K l.toArray E [] 0 l) : JC P n Q K (.region id l.toArray true) E := fun a w ha hw => by
  obtain ⟨F', _, h2, h3, D, h4, h5⟩ := h.table fun j x hx => by cases hx
  refine wp_region_any Mixed.h ?_
  refine wpAny_of_table hB hK (fun j x hx => by have := h2 j x hx; omega) (fun k o hk => by have := h3 k o hk; rwa [Nat.zero_add] at this) (fun j hj => by have := h4 j hj; omega) h5 _ _ _ _ ?_ ⟨by simp, ha, hK w _ hw ((Ch.refl [] w).drew), ?_⟩
  · unfold leftN
    refine Nat.le_trans (List.countP_le_length) ?_
    simp
  · intro i d kn hl
    rw [getD_replicate_false] at hl
    cases hl
theorem Hp.stay {w0 : World} {S : List Nat} {H : List HA} : ∀ w w', Hp w0 S H w → Ch [] w w' → Hp w0 S H w' := fun _ _ h hc => h.pure hc
/-- Less is known of the slots. -/
def dropE (ds : List Nat) : Env → Env
  | [] => []
  | p :: E => bif ds.any (fun d => Nat.beq d p.1) then dropE ds E else p :: dropE ds E
theorem dropE_lk {ds : List Nat} : ∀ {E : Env} {i : Nat} {v : Value}, lk (dropE ds E) i = some v → lk E i = some v
  | [], i, v, h => by cases h
  | p :: E, i, v, h => by
    unfold dropE at h
    cases hb : ds.any (fun d => Nat.beq d p.1)
    · rw [hb] at h
      simp only [cond_false] at h
      unfold lk at h ⊢
      cases hp : Nat.beq p.1 i
      · rw [hp] at h; exact dropE_lk h
      · rw [hp] at h; exact h
    · rw [hb] at h
      simp only [cond_true] at h
      unfold lk
      cases hp : Nat.beq p.1 i
      · exact dropE_lk h
      · exfalso
        have hpi := Nat.eq_of_beq_eq_true hp
        have : ∀ {E : Env}, lk (dropE ds E) i = some v → False := by
          intro E
          induction E with
          | nil => intro h; cases h
          | cons q E ih =>
            intro h
            unfold dropE at h
            cases hq : ds.any (fun d => Nat.beq d q.1)
            · rw [hq] at h
              simp only [cond_false] at h
              unfold lk at h
              cases hqi : Nat.beq q.1 i
              · rw [hqi] at h; exact ih h
              · have := Nat.eq_of_beq_eq_true hqi
                rw [this, ← hpi, hb] at hq
                cases hq
            · rw [hq] at h; exact ih h
        exact this h
theorem jc_drop {c : Code} (ds : List Nat) (h : JC P n Q K c (dropE ds E)) : JC P n Q K c E := fun a w ha hw => h a w ⟨ha.nodef, ha.size, fun i v hi => ha.slot i v (dropE_lk hi)⟩ hw
/-- A row of bytes that is there, as a string. -/
theorem y_str_at {w1 : World} {d : Option Tmp} {ty T T' e : Nat} {pos : String} {af : Array Edge} {g : Option (Nat × Bool)} {x : Operand} {ad : Option Addr} {m cap : Nat} {vs : List Value} {ns : List Int} [hT : TSlice P T e] [hE : TInt P e .u8] [hS : TStr P T'] (hx : ev E x = some (.slice ad m cap)) (hm : HA.ok w1 (.row ad m cap e 1 vs)) (hu : U8s vs ns) :
    Yields P n E (Hp w1 [] []) ⟨d, .convert T T' x, ty, pos, af, g⟩ (.string (strOfNums ns)) := fun a w ha hw =>
  y_str_own (w0 := w) (S := match ad with | none => [] | some p => [p.block]) (H := [.row ad m cap e 1 vs]) hx mem0 hu a w ha ⟨Ch.refl _ _, fun A hA => by rw [List.mem_singleton.1 hA]; exact HA.ch hm hw.ch, fun A hA k hk => by
    rw [List.mem_singleton.1 hA] at hk
    cases ad with
    | none => cases hk
    | some p => cases hk; exact .inr (.head _), List.pairwise_singleton _ _⟩
theorem jq_at {e : Exit} (hw : K w) (h : JQ n Q K e E) : ∀ a, Holds n E a → Q e a w := fun a ha => h a w ha hw
end
end Go.Proofs.YtghomncegjamfaaGreat
