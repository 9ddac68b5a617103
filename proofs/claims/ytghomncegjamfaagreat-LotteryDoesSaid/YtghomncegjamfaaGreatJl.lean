/- The calculus, part thirteen: slices held against nil; own blocks that are turned while all else is old; the first of a list. -/
import Derived.Test.YtghomncegjamfaaGreatJk
namespace Go.Proofs.YtghomncegjamfaaGreat
open Go.RowKit

section
variable {P : Program} {n : Nat} {E : Env} {W : World → Prop} {d : Option Tmp} {ty T T' : Nat} {pos : String} {af : Array Edge} {g : Option (Nat × Bool)} {x y : Operand}
theorem equalIn_snil {e : Nat} [hT : TSlice P T e] (m : Nat) (r : Option Addr) (l c : Nat) (w : World) : (Op.equalIn (m + 1) T (.slice r l c) (.slice none 0 0)).run P w = .ok r.isNone w := by
  cases r <;> simp [Op.equalIn, run_underlying hT.h]
theorem y_eql_snil {e l c : Nat} {r : Option Addr} [hT : TSlice P T e] (hx : ev E x = some (.slice r l c)) (hy : ev E y = some (.slice none 0 0)) : Yields P n E W ⟨d, .binOp .eql T x y T', ty, pos, af, g⟩ (.bool r.isNone) := fun a w ha _ => by
  have h1 : (binOp .eql T (.slice r l c) (.slice none 0 0)).run P w = .ok (.bool r.isNone) w := run_eql rfl (equalIn_snil 9999 r l c w)
  simp [execOp, ha.ev hx, ha.ev hy, eqGuard_run, h1]
theorem y_neq_snil {e l c : Nat} {r : Option Addr} [hT : TSlice P T e] (hx : ev E x = some (.slice r l c)) (hy : ev E y = some (.slice none 0 0)) : Yields P n E W ⟨d, .binOp .neq T x y T', ty, pos, af, g⟩ (.bool !r.isNone) := fun a w ha _ => by
  have h1 : (binOp .neq T (.slice r l c) (.slice none 0 0)).run P w = .ok (.bool !r.isNone) w := run_neq rfl (equalIn_snil 9999 r l c w)
  simp [execOp, ha.ev hx, ha.ev hy, eqGuard_run, h1]
end

section
variable {P : Program} {n : Nat} {E : Env} {W : World → Prop} {Q : Exit → Act → World → Prop} {ops : Array Oper} {rest : List Oper} {o : Oper} {d : Nat} {f : Nat} {args : Array Value} {w0 : World} {S : List Nat} {H H' : List HA} {ι : Type} {v : ι → Value} {A A' : HA}
/-- The base moved on: what is own stays own. -/
theorem Hp.here {w : World} (h : Hp w0 S H w) (S' : List Nat) (hS : ∀ A ∈ H, ∀ k, A.foot = some k → k ∈ S') : Hp w S' H w := ⟨.refl _ _, h.ok, fun A hA k hk => .inr (hS A hA k hk), h.apart⟩
/-- Back to the older base. -/
theorem Hp.then {w1 w : World} {S1 : List Nat} (h : Hp w0 S H w1) (h2 : Hp w1 S1 H' w) (hS : ∀ k ∈ S1, k ∈ S ∨ w0.heap.size ≤ k) : Hp w0 S H' w :=
  ⟨h.ch.trans h2.ch hS, h2.ok, fun A hA k hk => (h2.own A hA k hk).elim (fun h1 => .inl (Nat.le_trans h.ch.size h1)) (fun h1 => (hS k h1).symm), h2.apart⟩
/-- The base moved on, and what is own since the beginning. -/
theorem Hp.next {w1 w : World} {S1 : List Nat} (h : Hp w0 [] H w1) (h2 : Hp w1 S1 H' w) (hS : ∀ k ∈ S1, ∃ A ∈ H, A.foot = some k) : Hp w0 [] H' w :=
  h.then h2 fun k hk => by
    obtain ⟨A, hA, hf⟩ := hS k hk
    rcases h.own A hA k hf with h1 | h1
    · exact .inr h1
    · cases h1
theorem Hp.feet_lt {w : World} {T : List Nat} (h : Hp w0 S H w) (hT : ∀ k ∈ T, ∃ A ∈ H, A.foot = some k) : ∀ k ∈ T, k < w.heap.size := fun k hk => let ⟨A, hA, hf⟩ := hT k hk; HA.lt (h.ok A hA) hf
/-- A call of which facts are known. -/
theorem jl_kcallH {F : ι → World → Prop} (hS : ∀ A ∈ H, ∀ k, A.foot = some k → k ∈ S) (hd : o.dst = some d) (hn : d < n) (hg : want ops E o = some true) (hf : Goes P n E o f args)
    (hc : ∀ w, Hp w0 S H w → Calls P f args w fun e w' => ∃ b, e = .returned (v b) ∧ Ch [] w w' ∧ F b w') (k : ∀ b w1, Hp w0 S H w1 → F b w1 → JL P n Q (Hp w1 S H) ops rest ((d, v b) :: E)) : JL P n Q (Hp w0 S H) ops (o :: rest) E :=
  jl_call (v := v) (W' := fun b w => Hp w0 S H w ∧ F b w) hd hn hg hf (fun w hw => (hc w hw).mono fun _ _ ⟨b, he, h1, h2⟩ => ⟨b, he, hw.pure h1, h2⟩) fun b a w ha hw => k b w hw.1 hw.2 a w ha (hw.1.here S hS)
/-- A call that makes one block that stays own, and of which facts are known. -/
theorem jl_ncall {A : ι → HA} {bA : ι → Nat} {F : ι → World → World → Prop} (hd : o.dst = some d) (hn : d < n) (hg : want ops E o = some true) (hf : Goes P n E o f args)
    (hc : ∀ w, Hp w0 S H w → Calls P f args w fun e w' => ∃ b, e = .returned (v b) ∧ Fresh w w' (A b) ∧ F b w w') (hA : ∀ i, (A i).foot = some (bA i)) (hS : ∀ A ∈ H, ∀ k, A.foot = some k → k ∈ S)
    (k : ∀ b wp w1, Hp w0 S H wp → Fresh wp w1 (A b) → F b wp w1 → JL P n Q (Hp w1 (bA b :: S) (A b :: H)) ops rest ((d, v b) :: E)) : JL P n Q (Hp w0 S H) ops (o :: rest) E :=
  jl_call (v := v) (W' := fun b w => ∃ wp, Hp w0 S H wp ∧ Fresh wp w (A b) ∧ F b wp w) hd hn hg hf (fun w hw => (hc w hw).mono fun _ _ ⟨b, he, h1, h2⟩ => ⟨b, he, w, hw, h1, h2⟩) fun b a w ha ⟨wp, hw, h1, h2⟩ => k b wp w hw h1 h2 a w ha
    ((h1.hp hw).here (bA b :: S) fun B hB k hk => by
      rcases List.mem_cons.1 hB with rfl | hB
      · rw [hA] at hk; cases hk; exact .head _
      · exact .tail _ (hS B hB k hk))
/-- A call that turns one block, of which the caller knows more. -/
theorem jl_ucallH {v : Value} (hd : o.dst = some d) (hn : d < n) (hg : want ops E o = some true) (hf : Goes P n E o f args) (hA : A'.foot = A.foot)
    (hc : ∀ w, Hp w0 S H w → Calls P f args w fun e w' => e = .returned v ∧ Upd w w' A A') (r : Rep A A' H H') (k : JL P n Q (Hp w0 S H') ops rest ((d, v) :: E)) : JL P n Q (Hp w0 S H) ops (o :: rest) E :=
  jl_call (ι := Unit) (v := fun _ => v) (W' := fun _ => Hp w0 S H') hd hn hg hf (fun w hw => (hc w hw).mono fun _ _ ⟨he, h⟩ => ⟨(), he, h.hp hw r hA⟩) fun _ => k
theorem js_ucallH {C : World → Prop} {tail : List Oper} {rest : List (Oper × Bool)} {v : Value} (hd : o.dst = some d) (hn : d < n) (hg : want ops E o = some true) (hf : Goes P n E o f args) (hA : A'.foot = A.foot)
    (hc : ∀ w, Hp w0 S H w → Calls P f args w fun e w' => e = .returned v ∧ Upd w w' A A') (r : Rep A A' H H') (hW : ∀ w, Hp w0 S H' w → C w) (k : JS P n Q C (Hp w0 S H') ops tail rest ((d, v) :: E)) : JS P n Q C (Hp w0 S H) ops tail ((o, false) :: rest) E :=
  js_call (ι := Unit) (v := fun _ => v) (W' := fun _ => Hp w0 S H') (fun _ w h => hW w h) hd hn hg hf (fun w hw => (hc w hw).mono fun _ _ ⟨he, h⟩ => ⟨(), he, h.hp hw r hA⟩) fun _ => k
/-- A call that turns one block, and behind which facts are known. -/
theorem jl_ukcall {A' : ι → HA} {H' : ι → List HA} {F : ι → World → Prop} (hd : o.dst = some d) (hn : d < n) (hg : want ops E o = some true) (hf : Goes P n E o f args)
    (hc : ∀ w, Hp w0 S H w → Calls P f args w fun e w' => ∃ i, e = .returned (v i) ∧ Upd w w' A (A' i) ∧ F i w') (hA : ∀ i, (A' i).foot = A.foot) (r : ∀ i, Rep A (A' i) H (H' i)) (hS : ∀ A ∈ H, ∀ k, A.foot = some k → k ∈ S) (hS' : ∀ i, ∀ A ∈ H' i, ∀ k, A.foot = some k → k ∈ S)
    (k : ∀ i w1, Hp w0 S (H' i) w1 → F i w1 → JL P n Q (Hp w1 S (H' i)) ops rest ((d, v i) :: E)) : JL P n Q (Hp w0 S H) ops (o :: rest) E :=
  jl_call (v := v) (W' := fun i w => Hp w0 S (H' i) w ∧ F i w) hd hn hg hf (fun w hw => (hc w hw).mono fun _ _ ⟨i, he, h, hF⟩ => ⟨i, he, h.hp hw (r i) (hA i), hF⟩) fun i a w ha hw => k i w hw.1 hw.2 a w ha (hw.1.here S (hS' i))
end
theorem jc_rebaseF {P : Program} {n : Nat} {E : Env} {Q : Exit → Act → World → Prop} {c : Code} {w0 : World} {S : List Nat} {H : List HA} {F : World → Prop} (S' : List Nat) (hS : ∀ A ∈ H, ∀ k, A.foot = some k → k ∈ S') (h : ∀ w1, F w1 → Hp w0 S H w1 → JC P n Q (Hp w1 S' H) c E) : JC P n Q (fun w => F w ∧ Hp w0 S H w) c E := fun a w ha hw =>
  h w hw.1 hw.2 a w ha (hw.2.here S' hS)
theorem Hp.strs {w0 w : World} {S : List Nat} {H : List HA} {ad : Option Addr} {ps : List ByteArray} (hw : Hp w0 S H w) (h : Strs w0 ad ps) (hS : ∀ b o, ad = some ⟨b, o, none⟩ → b ∉ S) : Strs w ad ps := fun i p hp => let ⟨b, o, e, hc⟩ := h i p hp; ⟨b, o, e, hw.cell hc (hS b o e)⟩
/-- Strings that lie in none of the blocks that may be written. -/
def StrsO (w : World) (S : List Nat) (ad : Option Addr) (ps : List ByteArray) : Prop := Strs w ad ps ∧ ∀ b o, ad = some ⟨b, o, none⟩ → b ∉ S
theorem StrsO.keep {w w1 : World} {S : List Nat} {H : List HA} {ad : Option Addr} {ps : List ByteArray} (h : StrsO w S ad ps) (hw : Hp w S H w1) : StrsO w1 S ad ps := ⟨hw.strs h.1 h.2, h.2⟩
theorem Strs.block_lt {w : World} {b o : Nat} {ps : List ByteArray} (h : Strs w (some ⟨b, o, none⟩) ps) (hp : 0 < ps.length) : b < w.heap.size := by
  obtain ⟨b', o', e, hc⟩ := h 0 _ (List.getElem?_eq_getElem hp)
  cases e
  exact World.block_lt_of_cell? w _ hc
theorem StrsO.grow {w wp w1 : World} {S : List Nat} {H : List HA} {ad : Option Addr} {ps : List ByteArray} {A : HA} {b : Nat} (h : StrsO w S ad ps) (hp : Hp w S H wp) (hn : Fresh wp w1 A) (hA : A.foot = some b) (h0 : ad = none ∨ 0 < ps.length) : StrsO w1 (b :: S) ad ps :=
  ⟨(hp.strs h.1 h.2).ch hn.1, fun k o e hm => by
    rcases List.mem_cons.1 hm with rfl | hm
    · subst e
      have h1 := hn.2.2 _ hA
      have h2 := h.1.block_lt (by rcases h0 with h0 | h0; · cases h0
                                  · exact h0)
      have := hp.ch.size
      omega
    · exact h.2 k o e hm⟩
/-- A cell that lies in none of the blocks that may be written. -/
def CellO (w : World) (S : List Nat) (b o : Nat) (v : Value) : Prop := CellAt w b o v ∧ b ∉ S
theorem CellO.keep {w w1 : World} {S : List Nat} {H : List HA} {b o : Nat} {v : Value} (h : CellO w S b o v) (hw : Hp w S H w1) : CellO w1 S b o v := ⟨hw.cell h.1 h.2, h.2⟩
theorem CellO.grow {w wp w1 : World} {S : List Nat} {H : List HA} {b o : Nat} {v : Value} {A : HA} {k : Nat} (h : CellO w S b o v) (hp : Hp w S H wp) (hn : Fresh wp w1 A) (hA : A.foot = some k) : CellO w1 (k :: S) b o v :=
  ⟨(show CellAt wp b o v from hp.cell h.1 h.2).ch hn.1, fun hm => by
    rcases List.mem_cons.1 hm with rfl | hm
    · have h1 := World.block_lt_of_cell? w _ h.1
      have h2 := hn.2.2 _ hA
      have h3 := hp.ch.size
      have : b < w.heap.size := h1
      omega
    · exact h.2 hm⟩
theorem Fresh.to_know {w w' : World} {A : HA} (h : Fresh w w' A) : Ch [] w w' ∧ HA.ok w' A := ⟨h.1, h.2.1⟩
theorem strs_at' {w : World} {b o : Nat} {ps : List ByteArray} {i : Nat} {p : ByteArray} (h : Strs w (some ⟨b, o, none⟩) ps) (hp : ps[i]? = some p) : w.cell? ⟨b, o + i, none⟩ = some (.string p) := by
  obtain ⟨b', o', e, hc⟩ := h i p hp
  cases e
  exact hc

/-! ### The first of a list -/
def idxFrom {α : Type} (f : α → Bool) : List α → Nat → Int
  | [], _ => -1
  | x :: xs, i => if f x then (i : Nat) else idxFrom f xs (i + 1)
def idxF {α : Type} (f : α → Bool) (l : List α) : Int := idxFrom f l 0
theorem idxFrom_none {α : Type} {f : α → Bool} : ∀ {l : List α} {i : Nat}, (∀ y ∈ l, f y = false) → idxFrom f l i = -1
  | [], _, _ => rfl
  | x :: xs, i, h => by
    unfold idxFrom
    rw [h x (.head _)]
    simp only [Bool.false_eq_true, if_false]
    exact idxFrom_none fun y hy => h y (.tail _ hy)
theorem idxFrom_hit {α : Type} {f : α → Bool} {y : α} (hy : f y = true) : ∀ {l : List α} {i k : Nat}, (∀ j z, j < k → l[j]? = some z → f z = false) → l[k]? = some y → idxFrom f l i = ((i + k : Nat) : Int)
  | [], _, _, _, h => by simp at h
  | x :: xs, i, 0, _, h => by
    simp only [List.getElem?_cons_zero, Option.some.injEq] at h
    subst h
    unfold idxFrom
    rw [hy]; simp
  | x :: xs, i, k + 1, h1, h => by
    unfold idxFrom
    rw [h1 0 x (by omega) rfl]
    simp only [Bool.false_eq_true, if_false]
    rw [idxFrom_hit (k := k) hy (fun j z hj hz => h1 (j + 1) z (by omega) (by simpa using hz)) (by simpa using h)]
    congr 1
    omega
theorem idx_hit {α : Type} {f : α → Bool} {l : List α} {y : α} {k : Nat} (h1 : ∀ j z, j < k → l[j]? = some z → f z = false) (h : l[k]? = some y) (hy : f y = true) : idxF f l = (k : Nat) := by
  unfold idxF; rw [idxFrom_hit hy h1 h]; congr 1; omega
theorem idx_none {α : Type} {f : α → Bool} {l : List α} (h : ∀ j z, j < l.length → l[j]? = some z → f z = false) : idxF f l = -1 := idxFrom_none fun y hy => by
  obtain ⟨j, hj⟩ := List.getElem?_of_mem hy
  exact h j y (List.getElem?_eq_some_iff.1 hj).1 hj
theorem idxFrom_any {α : Type} {f : α → Bool} : ∀ (l : List α) (i : Nat), decide (0 ≤ idxFrom f l i) = l.any f
  | [], _ => rfl
  | x :: xs, i => by
    unfold idxFrom
    rw [List.any_cons, ← idxFrom_any xs (i + 1)]
    cases h : f x
    · simp
    · simp
theorem idx_any {α : Type} (f : α → Bool) (l : List α) : decide (0 ≤ idxF f l) = l.any f := idxFrom_any l 0
theorem idx_range {α : Type} (f : α → Bool) (l : List α) : -1 ≤ idxF f l ∧ idxF f l < l.length := by
  have : ∀ (l : List α) (i : Nat), -1 ≤ idxFrom f l i ∧ idxFrom f l i < ((i + l.length : Nat) : Int) := by
    intro l
    induction l with
    | nil => intro i; simp [idxFrom]; omega
    | cons x xs ih =>
      intro i
      unfold idxFrom
      have := ih (i + 1)
      simp only [List.length_cons]
      split <;> omega
  have := this l 0
  unfold idxF
  omega
end Go.Proofs.YtghomncegjamfaaGreat
