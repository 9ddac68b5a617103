/- The calculus, part twelve: calls that hand back several blocks, or facts about the memory behind them. -/
import Derived.Test.YtghomncegjamfaaGreatJj
namespace Go.Proofs.YtghomncegjamfaaGreat
open Go.RowKit

theorem Hp.many {w0 w w' : World} {S : List Nat} {H L : List HA} (hw : Hp w0 S H w) (h : Hp w [] L w') : Hp w0 S (L ++ H) w' := by
  have hsz := hw.ch.size
  refine ⟨hw.ch.then h.ch, ?_, ?_, ?_⟩
  · intro A hA
    rcases List.mem_append.1 hA with hA | hA
    · exact h.ok A hA
    · exact HA.kept (hw.ok A hA) (fun k hk => h.ch.block k (HA.lt (hw.ok A hA) hk) (by simp))
  · intro A hA k hk
    rcases List.mem_append.1 hA with hA | hA
    · rcases h.own A hA k hk with h1 | h1
      · exact .inl (Nat.le_trans hsz h1)
      · cases h1
    · exact hw.own A hA k hk
  · refine List.pairwise_append.2 ⟨h.apart, hw.apart, ?_⟩
    intro A hA B hB k hk hb
    have h1 := HA.lt (hw.ok B hB) hb
    rcases h.own A hA k hk with h2 | h2
    · omega
    · cases h2
theorem Hp.of_ch {w w' : World} {S : List Nat} (h : Ch S w w') : Hp w S [] w' := ⟨h, by simp, by simp, .nil⟩
/-- A call that turned two blocks. -/
theorem Hp.turn2 {w0 w w' : World} {H : List HA} {b c : Nat} {vs ws vs' ws' : List Value} (h : Hp w0 [] (.cells b vs :: .cells c ws :: H) w) (h5 : Hp w [c, b] [.cells c ws', .cells b vs'] w') : Hp w0 [] (.cells b vs' :: .cells c ws' :: H) w' := by
  have hap := h.apart
  simp only [List.pairwise_cons] at hap
  have hb := h.own (.cells b vs) (by simp) b rfl
  have hc := h.own (.cells c ws) (by simp) c rfl
  have hr : Hp w0 [] H w' := h.pop.pop.frame h5.ch (fun k hk => by
      simp only [List.mem_cons, List.not_mem_nil, or_false] at hk hb hc
      rcases hk with rfl | rfl
      · exact .inr hc
      · exact .inr hb) (fun A hA k hk hkT => by
      simp only [List.mem_cons, List.not_mem_nil, or_false] at hkT
      rcases hkT with rfl | rfl
      · exact hap.2.1 A hA _ rfl hk
      · exact hap.1 A (.tail _ hA) _ rfl hk)
  refine (hr.cons (A := .cells c ws') (h5.ok _ (by simp)) (fun k hk => by cases hk; exact hc) (fun B hB k hk => by cases hk; exact hap.2.1 B hB _ rfl)).cons (h5.ok (.cells b vs') (by simp)) (fun k hk => by cases hk; exact hb) ?_
  intro B hB k hk
  cases hk
  rcases List.mem_cons.1 hB with rfl | hB
  · exact hap.1 _ (.head _) _ rfl
  · exact hap.1 B (.tail _ hB) _ rfl
/-- Behind a step whose facts are known the memory may be looked at anew. -/
theorem Hp.over {w0 w1 w : World} {H : List HA} (h : Hp w0 [] [] w1) (hw : Hp w1 [] H w) : Hp w0 [] H w :=
  ⟨h.ch.then hw.ch, hw.ok, fun A hA k hk => .inl ((hw.own A hA k hk).elim (fun h1 => Nat.le_trans h.ch.size h1) (fun h1 => by cases h1)), hw.apart⟩
/-- A cell that is there. -/
abbrev CellAt (w : World) (b o : Nat) (v : Value) : Prop := w.cell? ⟨b, o, none⟩ = some v
theorem CellAt.keep {w w1 : World} {b o : Nat} {v : Value} {H : List HA} (h : CellAt w b o v) (hw : Hp w [] H w1) : CellAt w1 b o v := hw.cell h (by simp)
theorem CellAt.ch {w w1 : World} {b o : Nat} {v : Value} (h : CellAt w b o v) (hw : Ch [] w w1) : CellAt w1 b o v := h.keep (Hp.of_ch hw)
theorem CellAt.of_cells {w : World} {b o : Nat} {v : Value} {vs : List Value} (h : HA.ok w (.cells b vs)) (hv : vs[o]? = some v) : CellAt w b o v := ((h : Cells w b vs).cell o).trans hv
theorem Strs.ch {w w1 : World} {ad : Option Addr} {ps : List ByteArray} (h : Strs w ad ps) (hw : Ch [] w w1) : Strs w1 ad ps := h.keep (Hp.of_ch hw)

section
variable {P : Program} {n : Nat} {E : Env} {C W : World → Prop} {Q : Exit → Act → World → Prop} {ops : Array Oper} {tail : List Oper} {rest : List Oper} {o : Oper} {d : Nat} {f : Nat} {args : Array Value} {w0 : World} {S : List Nat} {H H' : List HA} {ι : Type} {v : ι → Value}
theorem jl_gcall2 {A B : ι → HA} (hd : o.dst = some d) (hn : d < n) (hg : want ops E o = some true) (hf : Goes P n E o f args)
    (hc : ∀ w, Hp w0 S H w → Calls P f args w fun e w' => ∃ b, e = .returned (v b) ∧ Hp w [] [A b, B b] w') (k : ∀ b, JL P n Q (Hp w0 S (A b :: B b :: H)) ops rest ((d, v b) :: E)) : JL P n Q (Hp w0 S H) ops (o :: rest) E :=
  jl_call (v := v) (W' := fun b => Hp w0 S (A b :: B b :: H)) hd hn hg hf (fun w hw => (hc w hw).mono fun _ _ ⟨b, he, h⟩ => ⟨b, he, hw.many h⟩) k
theorem jl_gcall3 {A B D : ι → HA} (hd : o.dst = some d) (hn : d < n) (hg : want ops E o = some true) (hf : Goes P n E o f args)
    (hc : ∀ w, Hp w0 S H w → Calls P f args w fun e w' => ∃ b, e = .returned (v b) ∧ Hp w [] [A b, B b, D b] w') (k : ∀ b, JL P n Q (Hp w0 S (A b :: B b :: D b :: H)) ops rest ((d, v b) :: E)) : JL P n Q (Hp w0 S H) ops (o :: rest) E :=
  jl_call (v := v) (W' := fun b => Hp w0 S (A b :: B b :: D b :: H)) hd hn hg hf (fun w hw => (hc w hw).mono fun _ _ ⟨b, he, h⟩ => ⟨b, he, hw.many h⟩) k
/-- A call of which facts are known: from there on the memory is old. -/
theorem jl_kcall {F : ι → World → Prop} (hd : o.dst = some d) (hn : d < n) (hg : want ops E o = some true) (hf : Goes P n E o f args)
    (hc : ∀ w, Hp w0 [] [] w → Calls P f args w fun e w' => ∃ b, e = .returned (v b) ∧ Ch [] w w' ∧ F b w') (k : ∀ b w1, Hp w0 [] [] w1 → F b w1 → JL P n Q (Hp w1 [] []) ops rest ((d, v b) :: E)) : JL P n Q (Hp w0 [] []) ops (o :: rest) E :=
  jl_call (v := v) (W' := fun b w => Hp w0 [] [] w ∧ F b w) hd hn hg hf (fun w hw => (hc w hw).mono fun _ _ ⟨b, he, h1, h2⟩ => ⟨b, he, hw.pure h1, h2⟩) fun b a w ha hw => k b w hw.1 hw.2 a w ha (Hp.nil w [])
/-- The same, whatever stands in own blocks: these may still be written. -/
theorem jl_kcallS (S' : List Nat) {F : ι → World → Prop} (hS : ∀ A ∈ H, ∀ k, A.foot = some k → k ∈ S') (hd : o.dst = some d) (hn : d < n) (hg : want ops E o = some true) (hf : Goes P n E o f args)
    (hc : ∀ w, Hp w0 S H w → Calls P f args w fun e w' => ∃ b, e = .returned (v b) ∧ Ch [] w w' ∧ F b w') (k : ∀ b w1, Hp w0 S H w1 → F b w1 → JL P n Q (Hp w1 S' H) ops rest ((d, v b) :: E)) : JL P n Q (Hp w0 S H) ops (o :: rest) E :=
  jl_call (v := v) (W' := fun b w => Hp w0 S H w ∧ F b w) hd hn hg hf (fun w hw => (hc w hw).mono fun _ _ ⟨b, he, h1, h2⟩ => ⟨b, he, hw.pure h1, h2⟩) fun b a w ha hw => k b w hw.1 hw.2 a w ha
    ⟨.refl _ _, hw.1.ok, fun A hA k hk => .inr (hS A hA k hk), hw.1.apart⟩
/-- The orders of a region, where what every operation keeps is less than what is known at its head. -/
theorem jc_schedC [Mixed P] {id : Nat} {l : List Oper} (C : World → Prop) (m : Nat) (sched : List (Nat × Bool)) (hl : sched.length = m)
    (hB : (Region.noSelect l.toArray && decide (m < l.toArray.size) && Region.sinkB .any l.toArray m && Region.chainB .any l.toArray m && schedB .any l.toArray m (l.toArray.size - m) sched (Array.replicate l.toArray.size false)) = true)
    (hQ : ∀ c (a : Act) (t : Array Value) w, Q (.panic c) { a with tmps := t } w → Q (.panic c) a w) (hC : ∀ w, W w → C w.drew) (hW : ∀ w, W w → W w.drew) (h : JS P n Q C W l.toArray (l.drop m) (pickO l sched) E) : JC P n Q W (.region id l.toArray true) E := fun a w ha hw =>
  wp_region_sched (C := C) m sched Mixed.h hl hB hQ (hC w hw) (h a _ ha (hW w hw))
theorem jc_treeC [Mixed P] {id : Nat} {l : List Oper} (C : World → Prop) (m : Nat) (sched : Sch)
    (hB : (Region.noSelect l.toArray && decide (m < l.toArray.size) && Region.sinkB .any l.toArray m && Region.chainB .any l.toArray m && schT .any l.toArray m (l.toArray.size - m) sched m (Array.replicate l.toArray.size false)) = true)
    (hQ : ∀ c (a : Act) (t : Array Value) w, Q (.panic c) { a with tmps := t } w → Q (.panic c) a w) (hC : ∀ w, W w → C w.drew) (hW : ∀ w, W w → W w.drew) (h : JF P n Q C W l (l.drop m) sched E) : JC P n Q W (.region id l.toArray true) E := fun a w ha hw =>
  wp_region_tree (C := C) m sched Mixed.h hB hQ (hC w hw) (h a _ ha (hW w hw))
theorem js_w {o : Oper} {rest : List (Oper × Bool)} {W' : World → Prop} (hd : o.dst = none) (hg : want ops E o = some true) (hy : Writes P n E W o W') (hW : ∀ w, W' w → C w) (k : JS P n Q C W' ops tail rest E) : JS P n Q C W ops tail ((o, false) :: rest) E := fun a w ha hw => by
  show (if Region.wanted o (yielded ops a.tmps) then _ else _)
  rw [if_pos (want_spec ha hg)]
  obtain ⟨w', hr, hw'⟩ := hy a w ha hw
  unfold Oper.wp
  rw [hr, Oper.upon_skip, hd]
  exact ⟨hW w' hw', k _ _ ha hw'⟩
theorem jf_w {l : List Oper} {i : Nat} {o : Oper} {s : Sch} {W' : World → Prop} (ho : nthO l i = o) (hd : o.dst = none) (hg : want l.toArray E o = some true) (hy : Writes P n E W o W') (hW : ∀ w, W' w → C w) (k : JF P n Q C W' l tail s E) : JF P n Q C W l tail (.step i false s) E := fun a w ha hw => by
  subst ho
  show (if Region.wanted (nthO l i) (yielded l.toArray a.tmps) then _ else _)
  rw [if_pos (want_spec ha hg)]
  obtain ⟨w', hr, hw'⟩ := hy a w ha hw
  unfold Oper.wp
  rw [hr, Oper.upon_skip, hd]
  exact ⟨hW w' hw', k _ _ ha hw'⟩
theorem js_m2z {o : Oper} {d : Nat} {rest : List (Oper × Bool)} {ι κ : Type} {v : ι → κ → Value} {W' : ι → κ → World → Prop} (hd : o.dst = some d) (hn : d < n) (hg : want ops E o = some true) (hy : Makes2 P n E W o v W') (hW : ∀ i j w, W' i j w → C w) (k : ∀ i j, JS P n Q C (W' i j) ops tail rest ((d, v i j) :: E)) : JS P n Q C W ops tail ((o, false) :: rest) E := js_m2 hW hd hn hg hy k
theorem jl_rebase {ops : Array Oper} {l : List Oper} (h : ∀ w1, W w1 → JL P n Q (Hp w1 [] []) ops l E) : JL P n Q W ops l E := fun a w ha hw => h w hw a w ha (Hp.nil w [])
/-- From here on the blocks of H alone may be written. -/
theorem jc_rebaseS {c : Code} (S' : List Nat) (hS : ∀ A ∈ H, ∀ k, A.foot = some k → k ∈ S') (h : ∀ w1, Hp w0 S H w1 → JC P n Q (Hp w1 S' H) c E) : JC P n Q (Hp w0 S H) c E := fun a w ha hw =>
  h w hw a w ha ⟨.refl _ _, hw.ok, fun A hA k hk => .inr (hS A hA k hk), hw.apart⟩
end
end Go.Proofs.YtghomncegjamfaaGreat
