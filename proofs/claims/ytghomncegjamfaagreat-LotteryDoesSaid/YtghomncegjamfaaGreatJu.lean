/- The calculus, part nineteen: a region that draws its order, whose first operations write to no block that is there, and which ends in steps that are forced: each operation is walked once; the blocks that the first ones bring are the call's own. -/
import Derived.Test.YtghomncegjamfaaGreatJr
namespace Go.Proofs.YtghomncegjamfaaGreat
open Go.RowKit

/-- With all that is known behind them. -/
def Ends (G : Env → List HA → Prop) : Kns → Env → List HA → Prop
  | [], E, H => G E H
  | (_, d, .is v) :: F, E, H => Ends G F ((d, v) :: E) H
  | (_, d, .own ι v As) :: F, E, H => ∀ b : ι, Ends G F ((d, v b) :: E) (As b ++ H)
inductive JM (P : Program) (n : Nat) (G : Env → List HA → Prop) (K : World → Prop) (ops : Array Oper) (E : Env) (H : List HA) : Kns → Nat → List Oper → Prop where
  | nil {F : Kns} {i : Nat} (h : Ends G F E H) : JM P n G K ops E H F i []
  | step {F : Kns} {i : Nat} {o : Oper} {rest : List Oper} {d : Nat} {kn : Kn} (D : List Nat) (hd : o.dst = some d) (hD : boundB o D = true) (h : ∀ w, K w → Given w F (fun E' => ∀ a, Holds n E' a → DoesAt P ops o a w kn) D E) (k : JM P n G K ops E H ((i, d, kn) :: F) (i + 1) rest) : JM P n G K ops E H F i (o :: rest)

section
variable {P : Program} {n : Nat} {Q : Exit → Act → World → Prop} {G : Env → List HA → Prop} {K : World → Prop} {ops : Array Oper} {E : Env} {H : List HA} {F : Kns} {i d : Nat} {o : Oper} {rest : List Oper} {v u : Value} {w : World} {a : Act}

theorem jm_y (D : List Nat) (hd : o.dst = some d) (hD : boundB o D = true) (h : ∀ w1, K w1 → Given w1 F (fun E' => want ops E' o = some true ∧ Yields P n E' (Hp w1 [] []) o v) D E) (k : JM P n G K ops E H ((i, d, .is v) :: F) (i + 1) rest) : JM P n G K ops E H F i (o :: rest) :=
  .step D hd hD (fun w hw => Given.mono (fun E' hE a ha => .inl ⟨want_spec ha hE.1, .inl ⟨v, w, hE.2 a w ha (Hp.nil w []), rfl, Ch.refl _ _⟩⟩) (h w hw)) k
theorem jm_skip (D : List Nat) (hd : o.dst = some d) (hD : boundB o D = true) (h : ∀ w1, K w1 → Given w1 F (fun E' => want ops E' o = some false) D E) (k : JM P n G K ops E H ((i, d, .is undef) :: F) (i + 1) rest) : JM P n G K ops E H F i (o :: rest) :=
  .step D hd hD (fun w hw => Given.mono (fun E' hE a ha => .inr ⟨want_spec ha hE, rfl, Ch.refl _ _⟩) (h w hw)) k
theorem jm_m {ι : Type} {v : ι → Value} {A : ι → HA} (D : List Nat) (hd : o.dst = some d) (hD : boundB o D = true) (h : ∀ w1, K w1 → Given w1 F (fun E' => want ops E' o = some true ∧ Makes P n E' (Hp w1 [] []) o v (fun b => Hp w1 [] [A b])) D E) (k : JM P n G K ops E H ((i, d, .own ι v fun b => [A b]) :: F) (i + 1) rest) : JM P n G K ops E H F i (o :: rest) :=
  .step D hd hD (fun w hw => Given.mono (fun E' hE a ha => by
    obtain ⟨b, w', hr, hw'⟩ := hE.2 a w ha (Hp.nil w [])
    exact .inl ⟨want_spec ha hE.1, .inl ⟨v b, w', hr, b, rfl, hw'⟩⟩) (h w hw)) k
theorem jm_call (D : List Nat) (hd : o.dst = some d) (hD : boundB o D = true) (h : ∀ w1, K w1 → Given w1 F (fun E' => want ops E' o = some true ∧ ∃ f args, Goes P n E' o f args ∧ Calls P f args w1 fun e w' => e = .returned v ∧ Ch [] w1 w') D E) (k : JM P n G K ops E H ((i, d, .is v) :: F) (i + 1) rest) : JM P n G K ops E H F i (o :: rest) :=
  .step D hd hD (fun w hw => Given.mono (fun E' hE a ha => by
    obtain ⟨hg, f, args, h1, h2⟩ := hE
    exact .inl ⟨want_spec ha hg, .inr ⟨f, args, h1 a w ha, h2.mono fun e w' h => ⟨v, h.1, rfl, h.2⟩⟩⟩) (h w hw)) k
theorem jm_gcall {ι : Type} {v : ι → Value} {As : ι → List HA} (D : List Nat) (hd : o.dst = some d) (hD : boundB o D = true) (h : ∀ w1, K w1 → Given w1 F (fun E' => want ops E' o = some true ∧ ∃ f args, Goes P n E' o f args ∧ Calls P f args w1 fun e w' => ∃ b, e = .returned (v b) ∧ Hp w1 [] (As b) w') D E) (k : JM P n G K ops E H ((i, d, .own ι v As) :: F) (i + 1) rest) : JM P n G K ops E H F i (o :: rest) :=
  .step D hd hD (fun w hw => Given.mono (fun E' hE a ha => by
    obtain ⟨hg, f, args, h1, h2⟩ := hE
    exact .inl ⟨want_spec ha hg, .inr ⟨f, args, h1 a w ha, h2.mono fun e w' ⟨b, h3, h4⟩ => ⟨v b, h3, b, rfl, h4⟩⟩⟩) (h w hw)) k
theorem jm_fcall {ι : Type} {v : ι → Value} {A : ι → HA} (D : List Nat) (hd : o.dst = some d) (hD : boundB o D = true) (h : ∀ w1, K w1 → Given w1 F (fun E' => want ops E' o = some true ∧ ∃ f args, Goes P n E' o f args ∧ Calls P f args w1 fun e w' => ∃ b, e = .returned (v b) ∧ Fresh w1 w' (A b)) D E) (k : JM P n G K ops E H ((i, d, .own ι v fun b => [A b]) :: F) (i + 1) rest) : JM P n G K ops E H F i (o :: rest) :=
  jm_gcall D hd hD (fun w hw => Given.mono (fun E' ⟨hg, f, args, h1, h2⟩ => ⟨hg, f, args, h1, h2.mono fun e w' ⟨b, h3, h4⟩ => ⟨b, h3, h4.hp (Hp.nil w [])⟩⟩) (h w hw)) k
theorem jm_as (e : v = u) (h : JM P n G K ops E H ((i, d, .is u) :: F) (i + 1) rest) : JM P n G K ops E H ((i, d, .is v) :: F) (i + 1) rest := e ▸ h
theorem jm_nil (h : Ends G F E H) : JM P n G K ops E H F i [] := .nil h

/-! ### The table -/
def keysN : Nat → List Nat
  | 0 => []
  | n + 1 => n :: keysN n
theorem keysN_mem {n i : Nat} : i ∈ keysN n ↔ i < n := by
  induction n with
  | zero => simp [keysN]
  | succ n ih => simp only [keysN, List.mem_cons, ih]; omega
theorem keysN_nodup : ∀ n, (keysN n).Nodup
  | 0 => .nil
  | n + 1 => List.nodup_cons.2 ⟨fun h => by have := keysN_mem.1 h; omega, keysN_nodup n⟩
theorem pk_of_mem {kn : Kn} : ∀ {F : Kns}, (F.map (·.1)).Nodup → (i, d, kn) ∈ F → pk F i = some (d, kn)
  | [], _, h => by cases h
  | (j, e, k) :: F, hn, h => by
    rw [List.map_cons, List.nodup_cons] at hn
    rcases List.mem_cons.1 h with h1 | h1
    · cases h1; exact pk_cons_eq
    · have hne : j ≠ i := fun e => hn.1 (by rw [e]; exact List.mem_map.2 ⟨_, h1, rfl⟩)
      rw [pk_cons_ne hne]
      exact pk_of_mem hn.2 h1
theorem JM.table {rest : List Oper} (h : JM P n G K ops E H F i rest) : F.map (·.1) = keysN i → ∃ F', (∀ j x, pk F j = some x → pk F' j = some x) ∧ F'.map (·.1) = keysN (i + rest.length) ∧ (∀ j x, pk F' j = some x → j < i + rest.length) ∧
    (∀ k o, rest[k]? = some o → ∃ d kn D, o.dst = some d ∧ boundB o D = true ∧ pk F' (i + k) = some (d, kn) ∧ ∀ w, K w → Given w F' (fun E' => ∀ a, Holds n E' a → DoesAt P ops o a w kn) D E) ∧ Ends G F' E H := by
  have small : ∀ {F : Kns} {i : Nat}, F.map (·.1) = keysN i → ∀ j x, pk F j = some x → j < i := by
    intro F i hF j x hx
    have : ∀ {F : Kns}, pk F j = some x → j ∈ F.map (·.1) := by
      intro F
      induction F with
      | nil => intro h; cases h
      | cons p F ih =>
        obtain ⟨q, e, k⟩ := p
        intro h
        by_cases hq : q = j
        · subst hq; exact .head _
        · rw [pk_cons_ne hq] at h; exact .tail _ (ih h)
    exact keysN_mem.1 (hF ▸ this hx)
  induction h with
  | @nil F i h => exact fun hF => ⟨F, fun _ _ h => h, hF, small hF, fun k o hk => by simp at hk, h⟩
  | @step F i o rest d kn D hd hD h k ih =>
    intro hF
    have hF1 : ∀ j x, pk F j = some x → pk ((i, d, kn) :: F) j = some x := fun j x hx => by rw [pk_cons_ne (fun e => by have := small hF j x hx; omega)]; exact hx
    obtain ⟨F', h1, h1', h2, h3, h5⟩ := ih (by rw [List.map_cons, hF]; rfl)
    refine ⟨F', fun j x hx => h1 j x (hF1 j x hx), by rw [h1', List.length_cons]; congr 1; omega, fun j x hx => by have := h2 j x hx; simp only [List.length_cons]; omega, ?_, h5⟩
    intro m o' hm
    cases m with
    | zero =>
      simp only [List.getElem?_cons_zero, Option.some.injEq] at hm
      subst hm
      exact ⟨d, kn, D, hd, hD, h1 _ _ pk_cons_eq, fun w hw => Given.grow (fun j x hx => h1 j x (hF1 j x hx)) (h w hw)⟩
    | succ m =>
      rw [List.getElem?_cons_succ] at hm
      obtain ⟨d', kn', D', g1, g2, g3, g4⟩ := h3 m o' hm
      exact ⟨d', kn', D', g1, g2, by rw [show i + (m + 1) = i + 1 + m by omega]; exact g3, g4⟩
/-- A slot's value, and the blocks that came with it. -/
def Kn.has : Kn → Value → List HA → Prop
  | .is v, u, L => u = v ∧ L = []
  | .own _ v As, u, L => ∃ b, u = v b ∧ L = As b
theorem Ends.elim {Hs : Nat → List HA} : ∀ {F : Kns} {E : Env} {H : List HA}, Ends G F E H → Holds n E a → (∀ i d kn, (i, d, kn) ∈ F → ∃ v, a.tmps[d]? = some v ∧ kn.has v (Hs i)) → ∃ E' H', Holds n E' a ∧ G E' H' ∧ H' = (F.reverse.flatMap fun p => Hs p.1) ++ H
  | [], E, H, h, ha, _ => ⟨E, H, ha, h, rfl⟩
  | (i, d, .is v) :: F, E, H, h, ha, hk => by
    obtain ⟨x, hx, e, hL⟩ := hk i d _ (.head _)
    subst e
    have h' : Ends G F ((d, x) :: E) H := h
    obtain ⟨E', H', h1, h2, h3⟩ := Ends.elim h' (ha.cons hx) fun i d kn hm => hk i d kn (.tail _ hm)
    exact ⟨E', H', h1, h2, by rw [h3]; simp [hL]⟩
  | (i, d, .own ι v As) :: F, E, H, h, ha, hk => by
    obtain ⟨x, hx, b, e, hL⟩ := hk i d _ (.head _)
    subst e
    have h' : Ends G F ((d, v b) :: E) (As b ++ H) := h b
    obtain ⟨E', H', h1, h2, h3⟩ := Ends.elim h' (ha.cons hx) fun i d kn hm => hk i d kn (.tail _ hm)
    exact ⟨E', H', h1, h2, by rw [h3]; simp [hL]⟩
theorem flat_in {Hs : Nat → List HA} {g : Nat → List HA} {i : Nat} {L : List HA} (hi : g i = []) : ∀ {l : List Nat}, l.Nodup → i ∈ l → (∀ j ∈ l, Hs j = if j = i then L else g j) → (l.flatMap Hs).Perm (L ++ l.flatMap g)
  | [], _, h, _ => by cases h
  | j :: l, hn, h, hs => by
    rw [List.nodup_cons] at hn
    rw [List.flatMap_cons, List.flatMap_cons]
    by_cases hj : j = i
    · subst hj
      have e1 : l.flatMap Hs = l.flatMap g := by
        have : ∀ k ∈ l, Hs k = g k := fun k hk => by
          have h1 := hs k (.tail _ hk)
          rwa [if_neg (fun e : k = j => hn.1 (e ▸ hk))] at h1
        clear hs h hn hi
        induction l with
        | nil => rfl
        | cons k l ih => rw [List.flatMap_cons, List.flatMap_cons, this k (.head _), ih fun m hm => this m (.tail _ hm)]
      rw [hs j (.head _), if_pos rfl, hi, e1, List.nil_append]
    · have hil : i ∈ l := by
        rcases List.mem_cons.1 h with h1 | h1
        · exact absurd h1.symm hj
        · exact h1
      have ih := flat_in hi hn.2 hil fun k hk => hs k (.tail _ hk)
      rw [hs j (.head _), if_neg hj]
      refine (List.Perm.append_left _ ih).trans ?_
      rw [← List.append_assoc, ← List.append_assoc]
      exact List.Perm.append_right _ List.perm_append_comm
theorem Hp.behind {w0 : World} {S : List Nat} : ∀ {L H : List HA}, Hp w0 S (L ++ H) w → Hp w0 S H w
  | [], _, h => h
  | _ :: L, H, h => Hp.behind (L := L) h.pop
def headsN (m : Nat) (listed : Array Bool) : Nat := (List.range m).countP fun i => !listed.getD i true
theorem heads_set {m : Nat} {listed : Array Bool} {i : Nat} (him : i < m) (h : listed.getD i true = false) : headsN m (listed.setIfInBounds i true) + 1 = headsN m listed := by
  have key : ∀ l : List Nat, l.Nodup → (i ∉ l → (l.countP fun j => !(listed.setIfInBounds i true).getD j true) = (l.countP fun j => !listed.getD j true)) ∧ (i ∈ l → (l.countP fun j => !(listed.setIfInBounds i true).getD j true) + 1 = (l.countP fun j => !listed.getD j true)) := by
    intro l
    induction l with
    | nil => exact fun _ => ⟨fun _ => rfl, fun h => by cases h⟩
    | cons j l ih =>
      intro hn
      rw [List.nodup_cons] at hn
      rw [List.countP_cons, List.countP_cons]
      by_cases hj : i = j
      · subst hj
        have e1 : (listed.setIfInBounds i true).getD i true = true := by simp [Array.getD]
        rw [e1, h]
        simp only [Bool.not_true, Bool.false_eq_true, if_false, Bool.not_false, if_true]
        exact ⟨fun h => absurd (.head _) h, fun _ => by have := (ih hn.2).1 hn.1; omega⟩
      · rw [getD_set_ne true hj]
        refine ⟨fun hm => by have := (ih hn.2).1 (fun h => hm (.tail _ h)); omega, fun hm => ?_⟩
        rcases List.mem_cons.1 hm with h1 | h1
        · exact absurd h1 hj
        · have := (ih hn.2).2 h1; omega
  exact (key _ List.nodup_range).2 (List.mem_range.2 him)
theorem heads_none {m : Nat} {listed : Array Bool} (h : headsN m listed = 0) {i : Nat} (hi : i < m) : listed.getD i true = true := by
  have := List.countP_eq_zero.1 h i (List.mem_range.2 hi)
  simpa using this
/-- All of the head is done, nothing of the tail. -/
def canL (m s : Nat) : Array Bool := (List.replicate m true ++ List.replicate s false).toArray
structure InvT (l : List Oper) (m n : Nat) (E : Env) (w0 : World) (S : List Nat) (H : List HA) (F' : Kns) (listed : Array Bool) (a : Act) (w : World) : Prop where
  head : HeadInv .any l.toArray m listed
  holds : Holds n E a
  slots : ∃ Hs : Nat → List HA, Hp w0 S (((List.range m).flatMap fun i => if listed.getD i false then Hs i else []) ++ H) w ∧ ∀ i d kn, i < m → listed.getD i false = true → pk F' i = some (d, kn) → ∃ v, a.tmps[d]? = some v ∧ kn.has v (Hs i)
theorem has_ok {kn : Kn} {L : List HA} (h : kn.has v L) (hL : ∀ A ∈ L, A.ok w) : kn.ok v w := by
  cases kn with
  | is u => exact h.1
  | own ι u As => obtain ⟨b, e, h⟩ := h; exact ⟨b, e, fun A hA => hL A (h ▸ hA)⟩
theorem keysN_rev : ∀ m, (keysN m).reverse = List.range m
  | 0 => rfl
  | m + 1 => by rw [keysN, List.reverse_cons, keysN_rev m, List.range_succ]
theorem flat_keys {Hs : Nat → List HA} {F : Kns} {m : Nat} (h : F.map (·.1) = keysN m) : (F.reverse.flatMap fun p => Hs p.1) = (List.range m).flatMap Hs := by
  rw [← keysN_rev, ← h, ← List.map_reverse, List.flatMap_map]
theorem headS_of_tableT {l : List Oper} {m : Nat} {w0 : World} {S : List Nat} {F' : Kns} (hm : m < l.length) (hB : freeB n (l.take m) E = true) (hs : Region.sinkB .any l.toArray m = true) (hc : Region.chainB .any l.toArray m = true)
    (hseq : Region.seqB .any l.toArray (l.length - m) m (canL m (l.length - m)) = true) (hkeys : F'.map (·.1) = keysN m) (hlt : ∀ j x, pk F' j = some x → j < m)
    (tbl : ∀ k o, (l.take m)[k]? = some o → ∃ d kn D, o.dst = some d ∧ boundB o D = true ∧ pk F' k = some (d, kn) ∧ ∀ w, Hp w0 S H w → Given w F' (fun E' => ∀ a, Holds n E' a → DoesAt P l.toArray o a w kn) D E)
    (fin : Ends (fun E' H' => ∀ a w, Holds n E' a → Hp w0 S H' w → wpList P l.toArray Q (l.drop m) a w) F' E H) :
    ∀ (f : Nat) (listed : Array Bool) (a : Act) (w : World), headsN m listed = f → InvT l m n E w0 S H F' listed a w → headS P .any l.toArray Q (fun _ => True) m (fun listed' a' w' => Region.seqB .any l.toArray (l.length - m) m listed' = true ∧ wpList P l.toArray Q (l.drop m) a' w') f listed a w := by
  simp only [freeB, Bool.and_eq_true] at hB
  obtain ⟨⟨⟨hsome, hfresh⟩, hdown⟩, hE⟩ := hB
  obtain ⟨hpw, hn⟩ := freshB_spec hfresh
  have hdst : ∀ (k : Nat) (o : Oper) (d : Nat), (l.take m)[k]? = some o → o.dst = some d → (slotsB (l.take m))[k]? = some d := fun k o d hk hd => by simp only [slotsB, List.getElem?_map, hk, Option.map_some, hd, Option.getD_some]
  have hltm : (l.take m).length = m := by rw [List.length_take]; omega
  intro f
  induction f with
  | zero =>
    intro listed a w h0 inv
    have hall : ∀ i, i < m → listed.getD i false = true := fun i hi => by
      have := heads_none h0 hi
      rwa [getD_two (by have := inv.head.size; simp at this; omega)] at this
    have hcan : listed = canL m (l.length - m) := by
      apply Array.ext
      · rw [inv.head.size]; simp [canL]; omega
      · intro i h1 h2
        have hsz : listed.size = l.length := by have := inv.head.size; simpa using this
        by_cases him : i < m
        · have := hall i him
          simp [Array.getD, h1] at this
          rw [this]
          simp [canL, him]
        · have := inv.head.tail i (by omega) (by simp; omega)
          simp [Array.getD, h1] at this
          rw [this]
          simp [canL, List.getElem_append, him]
    obtain ⟨Hs, hp, hsl⟩ := inv.slots
    have hflat : ((List.range m).flatMap fun i => if listed.getD i false then Hs i else []) = (List.range m).flatMap Hs := by
      have : ∀ i ∈ List.range m, (if listed.getD i false then Hs i else []) = Hs i := fun i hi => by rw [hall i (List.mem_range.1 hi)]; rfl
      generalize List.range m = r at this ⊢
      induction r with
      | nil => rfl
      | cons k r ih => rw [List.flatMap_cons, List.flatMap_cons, this k (.head _), ih fun i hi => this i (.tail _ hi)]
    rw [hflat] at hp
    obtain ⟨E', H', h1, h2, h3⟩ := Ends.elim (Hs := Hs) fin inv.holds fun i d kn hmem => by
      have hpk := pk_of_mem (by rw [hkeys]; exact keysN_nodup m) hmem
      have him := hlt i _ hpk
      exact hsl i d kn him (hall i him) hpk
    rw [flat_keys hkeys] at h3
    exact ⟨by rw [hcan]; exact hseq, h2 a w h1 (h3 ▸ hp)⟩
  | succ f ih =>
    intro listed a w hf inv
    have hsz : listed.size = l.length := by have := inv.head.size; simpa using this
    have hex : ∀ k i, i < k → i < m → listed.getD i true = false → ∃ j ∈ Region.ready .any l.toArray listed, True := by
      intro k
      induction k with
      | zero => intro i hi; omega
      | succ k ihk =>
        intro i hi him hfl
        have hil : i < l.length := by omega
        have hti : (l.take m)[i]? = some l[i] := by rw [List.getElem?_take_of_lt him, List.getElem?_eq_getElem hil]
        by_cases hrd : ∀ e ∈ (l[i]).after, Region.binds .any e = true → listed.getD e.on false = true
        · exact ⟨i, mem_ready.2 ⟨hfl, l[i], by simp [hil], hrd⟩, trivial⟩
        · simp only [Classical.not_forall] at hrd
          obtain ⟨e, he, _, hne⟩ := hrd
          have hlt' := downB_spec hdown i l[i] hti e he
          refine ihk e.on (by omega) (by omega) ?_
          rw [getD_two (by omega)]
          simpa using hne
    obtain ⟨i0, hi0, hun0⟩ : ∃ i, i < m ∧ listed.getD i true = false := by
      have hpos : 0 < headsN m listed := by omega
      obtain ⟨i, hi, hfl⟩ := List.countP_pos_iff.1 hpos
      exact ⟨i, List.mem_range.1 hi, by simpa using hfl⟩
    refine ⟨fun h => ?_, fun i hi => ?_⟩
    · obtain ⟨j, hj, _⟩ := hex (i0 + 1) i0 (by omega) hi0 hun0
      rw [h] at hj; cases hj
    have him : i < m := (Nat.lt_or_ge i m).elim id fun h => absurd hi (tail_waits hs hc (by simpa using hm) inv.head _ i0 rfl hi0 hun0 i h)
    refine ⟨him, ?_⟩
    obtain ⟨hun, o, ho, hedges⟩ := mem_ready.1 hi
    have ho' : (l.take m)[i]? = some o := by rw [List.getElem?_take_of_lt him]; simpa using ho
    obtain ⟨d, kn, D', hd, hbD, hpk, hob⟩ := tbl i o ho'
    have hdl : d ∈ slotsB (l.take m) := List.mem_of_getElem? (hdst i o d ho' hd)
    obtain ⟨Hs, hp, hsl⟩ := inv.slots
    have hK : Hp w0 S H w := hp.behind
    obtain ⟨E', hE1, hE2⟩ := Given.elim (hob w hK) inv.holds (fun j hj dj kj hpj => by
      obtain ⟨e, he0, hb⟩ := List.any_eq_true.1 (List.all_eq_true.1 hbD j hj)
      have he : e ∈ o.after := by simpa using he0
      simp only [Bool.and_eq_true] at hb
      have hlj := hedges e he hb.2
      rw [Nat.eq_of_beq_eq_true hb.1] at hlj
      have hjm := hlt j _ hpj
      obtain ⟨v, hv, hh⟩ := hsl j dj kj hjm hlj hpj
      refine ⟨v, hv, has_ok hh fun A hA => hp.ok A (List.mem_append_left _ (List.mem_flatMap.2 ⟨j, List.mem_range.2 hjm, ?_⟩))⟩
      rw [hlj]; exact hA)
    have next : ∀ v w', kn.new v w w' → headS P .any l.toArray Q (fun _ => True) m (fun listed' a' w' => Region.seqB .any l.toArray (l.length - m) m listed' = true ∧ wpList P l.toArray Q (l.drop m) a' w') f (listed.setIfInBounds i true) (a.put (some d) v) w' := by
      intro v w' hnew
      have hother : ∀ j dj kj, j < m → i ≠ j → pk F' j = some (dj, kj) → d ≠ dj := by
        intro j dj kj hjm hij hpj
        have hjl : j < l.length := by omega
        have htj : (l.take m)[j]? = some l[j] := by rw [List.getElem?_take_of_lt hjm, List.getElem?_eq_getElem hjl]
        obtain ⟨dj', kj', _, hdj, _, hpj', _⟩ := tbl j l[j] htj
        rw [hpj] at hpj'
        cases hpj'
        obtain ⟨i1, e1⟩ := List.getElem?_eq_some_iff.1 (hdst i o d ho' hd)
        obtain ⟨j1, e2⟩ := List.getElem?_eq_some_iff.1 (hdst j l[j] dj htj hdj)
        rcases Nat.lt_or_gt_of_ne hij with hlt' | hlt'
        · have := List.pairwise_iff_getElem.1 hpw i j i1 j1 hlt'
          rw [e1, e2] at this
          exact this
        · have := List.pairwise_iff_getElem.1 hpw j i j1 i1 hlt'
          rw [e1, e2] at this
          exact this.symm
      have hmine : (a.put (some d) v).tmps[d]? = some v := by
        show (a.tmps.setIfInBounds d v)[d]? = some v
        have : d < a.tmps.size := by rw [inv.holds.size]; exact hn d hdl
        simp [this]
      have hkeep : ∀ j dj kj, j < m → i ≠ j → pk F' j = some (dj, kj) → (a.put (some d) v).tmps[dj]? = a.tmps[dj]? := by
        intro j dj kj hjm hij hpj
        show (a.tmps.setIfInBounds d v)[dj]? = _
        rw [Array.getElem?_setIfInBounds, if_neg (hother j dj kj hjm hij hpj)]
      obtain ⟨L, hhas, hpL⟩ : ∃ L, kn.has v L ∧ Hp w0 S (L ++ (((List.range m).flatMap fun i => if listed.getD i false then Hs i else []) ++ H)) w' := by
        cases kn with
        | is u => exact ⟨[], ⟨hnew.1, rfl⟩, hp.pure hnew.2⟩
        | own ι u As => obtain ⟨b, e, h⟩ := hnew; exact ⟨As b, ⟨b, e, rfl⟩, hp.many h⟩
      refine ih _ _ _ (by have := heads_set him hun; omega) ⟨inv.head.set hi him, inv.holds.putO (fun p hpE e => ?_), fun j => if j = i then L else Hs j, ?_, ?_⟩
      · have := List.all_eq_true.1 (List.all_eq_true.1 hE p hpE) d hdl
        rw [e, Nat.beq_refl] at this
        exact absurd this (by decide)
      · refine hpL.perm ?_
        rw [← List.append_assoc]
        refine List.Perm.append_right _ ?_
        refine (flat_in (g := fun i => if listed.getD i false then Hs i else []) (i := i) (L := L) ?_ List.nodup_range (List.mem_range.2 him) fun j _ => ?_).symm
        · show (if listed.getD i false = true then Hs i else []) = []
          rw [show listed.getD i false = false from getD_both hun]
          rfl
        · show (if (listed.setIfInBounds i true).getD j false = true then (if j = i then L else Hs j) else []) = if j = i then L else if listed.getD j false = true then Hs j else []
          by_cases hj : j = i
          · subst hj
            have hjs : j < listed.size := by omega
            have e1 : (listed.setIfInBounds j true).getD j false = true := by simp [Array.getD, hjs]
            rw [e1, if_pos rfl, if_pos rfl, if_pos rfl]
          · rw [if_neg hj, if_neg hj, getD_set_ne false (fun e => hj e.symm)]
      · intro j dj kj hjm hl hpj
        by_cases hij : i = j
        · subst hij
          rw [hpk] at hpj
          cases hpj
          exact ⟨v, hmine, by simp only [if_true]; exact hhas⟩
        · rw [getD_set_ne false hij] at hl
          obtain ⟨u, hu, hh⟩ := hsl j dj kj hjm hl hpj
          exact ⟨u, by rw [hkeep j dj kj hjm hij hpj]; exact hu, by simp only [if_neg (fun e => hij e.symm : ¬ j = i)]; exact hh⟩
    unfold wpOp
    simp only [ho]
    rcases hE2 a hE1 with ⟨hw, h⟩ | ⟨hw, h⟩
    · rw [if_pos hw]
      refine .inl ?_
      rcases h with ⟨v, w', hr, hok⟩ | ⟨f, args, hr, hcalls⟩
      · unfold Oper.wp
        rw [hr, Oper.upon_value, hd]
        exact ⟨trivial, next v w' hok⟩
      · unfold Oper.wp
        rw [hr, Oper.upon_enter]
        refine hcalls.mono ?_
        rintro e w' ⟨v, rfl, hok⟩
        rw [hd]
        exact ⟨trivial, next v w' hok⟩
    · rw [if_neg (by rw [hw]; simp), hd]
      exact ⟨trivial, next undef w h⟩
theorem jc_freeT [Mixed P] {id : Nat} {l : List Oper} {w0 : World} {S : List Nat} (m : Nat) (hB : freeB n (l.take m) E = true)
    (hT : (decide (m < l.length) && Region.sinkB .any l.toArray m && Region.chainB .any l.toArray m && Region.seqB .any l.toArray (l.length - m) m (canL m (l.length - m))) = true)
    (h : JM P n (fun E' H' => JL P n Q (Hp w0 S H') l.toArray (l.drop m) E') (Hp w0 S H) l.toArray E H [] 0 (l.take m)) : JC P n Q (Hp w0 S H) (.region id l.toArray true) E := fun a w ha hw => by
  simp only [Bool.and_eq_true, decide_eq_true_eq] at hT
  obtain ⟨⟨⟨hm, hs⟩, hc⟩, hseq⟩ := hT
  obtain ⟨F', _, hkeys, h2, h3, h5⟩ := h.table rfl
  have hltm : (l.take m).length = m := by rw [List.length_take]; omega
  rw [hltm, Nat.zero_add] at hkeys h2
  have inv0 : HeadInv .any l.toArray m (Array.replicate l.toArray.size false) :=
    ⟨by simp, fun j oj _ hl => (by rw [getD_replicate_false] at hl; cases hl), fun t _ ht => getD_in (by simpa using ht) (getD_replicate_false _ _)⟩
  have h0 : ∀ i, i < m → (Array.replicate l.toArray.size false).getD i true = false := fun i hi => getD_in (by simp; omega) (getD_replicate_false _ _)
  have hf : headsN m (Array.replicate l.toArray.size false) = m := by
    unfold headsN
    rw [List.countP_eq_length.2 (fun i hi => by rw [h0 i (List.mem_range.1 hi)]; rfl), List.length_range]
  have H1 := headS_of_tableT (Q := Q) hm hB hs hc hseq hkeys h2 (fun k o hk => by have := h3 k o hk; rwa [Nat.zero_add] at this) (S := S) h5 m _ a (w.drew) hf
    ⟨inv0, ha, fun _ => [], by
      have : ((List.range m).flatMap fun i => if (Array.replicate l.toArray.size false).getD i false then ([] : List HA) else []) = [] := by
        apply List.flatMap_eq_nil_iff.2; intro i _; split <;> rfl
      rw [this]; exact hw.pure ((Ch.refl [] w).drew), fun i d kn _ hl => by rw [getD_replicate_false] at hl; cases hl⟩
  refine wp_region_any Mixed.h ?_
  have hdl : (l.drop m).length = l.length - m := by simp
  have := wpAny_of_headS (m := l.length - m) (fun listed a' w' hL => by
    have := wpAny_of_seq (md := .any) (Q' := Q) (l.drop m) m listed a' w' (fun j => by simp [List.getElem?_drop]) (by rw [hdl]; exact hL.1) hL.2
    rwa [hdl] at this) _ _ _ _ H1
  rw [show m + (l.length - m) = l.toArray.size by simp; omega] at this
  exact this
/-! ### Ways that meet again -/
theorem jc_join {W W' : World → Prop} {x y : Code} (E' : Env) (hy : JC P n Q W' y E') (hx : JC P n (Exit.then (fun a w => Holds n E' a ∧ W' w) Q) W x E) : JC P n Q W (.seq x y) E := fun a w ha hw => wp_seq (wp_mono (hx a w ha hw) fun e a' w' hq => by
  cases e with
  | normal => exact hy a' w' hq.1 hq.2
  | exit id => exact hq
  | goto l => exact hq
  | ret => exact hq
  | panic ch => exact hq
  | outgrown => exact hq)
theorem jq_join {W W' : World → Prop} {E' : Env} (hk : Knows E E') (hw : ∀ w, W w → W' w) : JQ n (Exit.then (fun a w => Holds n E' a ∧ W' w) Q) W .normal E := fun _ w ha hw' => ⟨ha.weaken hk, hw w hw'⟩
end
end Go.Proofs.YtghomncegjamfaaGreat
