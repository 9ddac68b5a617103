/- A small calculus over the kit's weakest preconditions: what is known of the slots is a list, what is known of the world is a predicate; one rule for each form of code and each operation. -/
import Derived.WalkKit
import Derived.WalkSpells
import Derived.WalkLawsBesides
import Derived.Deep.Quiet
import Derived.Deep.LoopGhost
import Derived.KernelRfl
namespace Go.Proofs.Ytghomncegjamfaa
open Go.RowKit

/-! ### What is known of the slots -/
abbrev Env := List (Nat × Value)

def lk : Env → Nat → Option Value
  | [], _ => none
  | p :: E, i => bif Nat.beq p.1 i then some p.2 else lk E i

structure Holds (n : Nat) (E : Env) (a : Act) : Prop where
  nodef : a.defers = []
  size : a.tmps.size = n
  slot : ∀ i v, lk E i = some v → a.tmps[i]? = some v

def ev (E : Env) : Operand → Option Value
  | .tmp t => lk E t
  | .const v => some v
  | .global g => some (.pointer (some ⟨g, 0, none⟩))
  | .func f => some (.func (.func f) #[] #[])

def evs (E : Env) : List Operand → Option (List Value)
  | [] => some []
  | x :: xs => match ev E x with
    | none => none
    | some v => match evs E xs with
      | none => none
      | some vs => some (v :: vs)

section
variable {n : Nat} {E : Env} {a : Act}

theorem Holds.ev (h : Holds n E a) {x : Operand} {v : Value} (hx : ev E x = some v) : a.eval x = v := by
  cases x with
  | tmp t =>
    have := h.slot t v hx
    simp [Act.eval, Array.getD_eq_getD_getElem?, this]
  | const u => exact Option.some.inj hx
  | global g => exact Option.some.inj hx
  | func f => exact Option.some.inj hx

theorem Holds.evs (h : Holds n E a) : ∀ {xs : List Operand} {vs : List Value}, evs E xs = some vs → xs.map a.eval = vs
  | [], vs, hx => by simpa [Go.Proofs.Ytghomncegjamfaa.evs] using hx
  | x :: xs, vs, hx => by
    unfold Go.Proofs.Ytghomncegjamfaa.evs at hx
    split at hx
    · cases hx
    · rename_i v hv
      split at hx
      · cases hx
      · rename_i us hus
        cases hx
        simp [h.ev hv, Holds.evs h hus]

theorem Holds.put (h : Holds n E a) {d : Nat} (hd : d < n) (v : Value) : Holds n ((d, v) :: E) (a.put (some d) v) := by
  refine ⟨h.nodef, by simp [Act.put, h.size], ?_⟩
  intro i u hi
  unfold lk at hi
  show (a.tmps.setIfInBounds d v)[i]? = some u
  rw [Array.getElem?_setIfInBounds]
  by_cases hdi : d = i
  · subst hdi
    simp at hi
    subst hi
    simp [h.size, hd]
  · have : Nat.beq d i = false := by
      cases hb : Nat.beq d i
      · rfl
      · exact absurd (Nat.eq_of_beq_eq_true hb) hdi
    simp only [this, cond_false] at hi
    rw [if_neg hdi]
    exact h.slot i u hi

/-- 'E' knows all that the list 'F' says. -/
def Knows (E : Env) : Env → Prop
  | [] => True
  | p :: F => lk E p.1 = some p.2 ∧ Knows E F

theorem Knows.lk {E : Env} : ∀ {F : Env}, Knows E F → ∀ i v, lk F i = some v → lk E i = some v
  | [], _, i, v, h => by cases h
  | p :: F, hk, i, v, h => by
    unfold Go.Proofs.Ytghomncegjamfaa.lk at h
    cases hb : Nat.beq p.1 i
    · rw [hb] at h
      exact Knows.lk hk.2 i v h
    · rw [hb] at h
      cases h
      have := Nat.eq_of_beq_eq_true hb
      subst this
      exact hk.1

theorem Holds.weaken {F : Env} (h : Holds n E a) (hk : Knows E F) : Holds n F a :=
  ⟨h.nodef, h.size, fun i v hi => h.slot i v (hk.lk i v hi)⟩

theorem lk_int {k : IntKind} {x y : Int} {i : Nat} (h : lk E i = some (.int k x)) (e : x = y) : lk E i = some (.int k y) := e ▸ h
theorem lk_str {x y : ByteArray} {i : Nat} (h : lk E i = some (.string x)) (e : x = y) : lk E i = some (.string y) := e ▸ h
theorem lk_bool {x y : Bool} {i : Nat} (h : lk E i = some (.bool x)) (e : x = y) : lk E i = some (.bool y) := e ▸ h
theorem lk_val {x y : Value} {i : Nat} (h : lk E i = some x) (e : x = y) : lk E i = some y := e ▸ h
end

/-! ### Does an operation's guard let it be carried out? -/
def want (ops : Array Oper) (E : Env) (o : Oper) : Option Bool :=
  match o.guard with
  | none => some true
  | some (j, b) => match ops[j]? with
    | none => none
    | some oj => match oj.dst with
      | none => none
      | some d => match lk E d with
        | some (.bool c) => some (c == b)
        | some (.tuple _) => some false
        | _ => none

theorem want_spec {n : Nat} {ops : Array Oper} {E : Env} {o : Oper} {a : Act} {b : Bool} (h : Holds n E a) (hw : want ops E o = some b) : Region.wanted o (yielded ops a.tmps) = b := by
  unfold want at hw
  unfold Region.wanted
  split at hw
  · rename_i hg
    rw [hg]; simpa using hw
  · rename_i j c hg
    rw [hg]
    simp only
    split at hw
    · cases hw
    · rename_i oj hoj
      split at hw
      · cases hw
      · rename_i d hd
        split at hw
        · rename_i u hu
          have := h.slot d _ hu
          cases hw
          simp only [yielded, hoj, hd, Option.bind_some, this]
          cases u <;> cases c <;> rfl
        · rename_i u hu
          have := h.slot d _ hu
          cases hw
          simp only [yielded, hoj, hd, Option.bind_some, this]
          rfl
        · cases hw

/-! ### The judgements -/
section
variable (P : Program) (n : Nat) (Q : Exit → Act → World → Prop) (W : World → Prop)
/-- A piece of code, from every frame and world of which this is known. -/
def JC (c : Code) (E : Env) : Prop := ∀ a w, Holds n E a → W w → c.wp P Q a w
/-- The code is left so. -/
def JQ (e : Exit) (E : Env) : Prop := ∀ a w, Holds n E a → W w → Q e a w
/-- The operations that are left of a region, in the text's order. -/
def JL (ops : Array Oper) (rest : List Oper) (E : Env) : Prop := ∀ a w, Holds n E a → W w → wpList P ops Q rest a w
/-- The same for a region that draws its order, and whose operations each leave a world of which the same is known. -/
def JU (ops : Array Oper) (rest : List Oper) (E : Env) : Prop := ∀ a, Holds n E a → wpQuiet P ops W (fun a' => ∀ w, W w → Q .normal a' w) rest a
end

section
variable {P : Program} {n : Nat} {Q : Exit → Act → World → Prop} {W : World → Prop} {E : Env}

theorem jc_seq {x y : Code} (h : JC P n (Exit.then (y.wp P Q) Q) W x E) : JC P n Q W (.seq x y) E := fun a w ha hw => wp_seq (h a w ha hw)
theorem jc_skip (h : JQ n Q W .normal E) : JC P n Q W .skip E := fun a w ha hw => wp_skip (h a w ha hw)
theorem jc_exit {id : Nat} (h : JQ n Q W (.exit id) E) : JC P n Q W (.exit id) E := fun a w ha hw => wp_exit (h a w ha hw)
theorem jc_ret (h : JQ n Q W .ret E) : JC P n Q W .ret E := fun a w ha hw => wp_ret (h a w ha hw)
theorem jc_block {id : Nat} {c : Code} (h : JC P n (Exit.inBlock id Q) W c E) : JC P n Q W (.block id c) E := fun a w ha hw => wp_block (h a w ha hw)
theorem jc_true {c : Operand} {x y : Code} (hc : ev E c = some (.bool true)) (h : JC P n Q W x E) : JC P n Q W (.cond c x y) E :=
  fun a w ha hw => wp_cond_true (ha.ev hc) (h a w ha hw)
theorem jc_false {c : Operand} {x y : Code} (hc : ev E c = some (.bool false)) (h : JC P n Q W y E) : JC P n Q W (.cond c x y) E :=
  fun a w ha hw => wp_cond_false (ha.ev hc) (h a w ha hw)
theorem jc_cond {c : Operand} {x y : Code} {b : Bool} (hc : ev E c = some (.bool b)) (h1 : b = true → JC P n Q W x E) (h2 : b = false → JC P n Q W y E) : JC P n Q W (.cond c x y) E :=
  fun a w ha hw => wp_cond_split (ha.ev hc) (fun h => h1 h a w ha hw) (fun h => h2 h a w ha hw)
theorem jc_prop {c : Operand} {x y : Code} {p : Prop} [Decidable p] (hc : ev E c = some (.bool (decide p))) (h1 : p → JC P n Q W x E) (h2 : ¬ p → JC P n Q W y E) : JC P n Q W (.cond c x y) E :=
  jc_cond hc (fun h => h1 (of_decide_eq_true h)) (fun h => h2 (of_decide_eq_false h))
theorem jc_region {id : Nat} {l : List Oper} (h : JL P n Q W l.toArray l E) : JC P n Q W (.region id l.toArray false) E := fun a w ha hw => wp_region_lit (h a w ha hw)
theorem jc_weaken {c : Code} {F : Env} (hk : Knows E F) (h : JC P n Q W c F) : JC P n Q W c E := fun a w ha hw => h a w (ha.weaken hk) hw
theorem jc_world {c : Code} {W' : World → Prop} (hk : ∀ w, W w → W' w) (h : JC P n Q W' c E) : JC P n Q W c E := fun a w ha hw => h a w ha (hk w hw)
theorem jc_ex {ι : Type} {c : Code} {W' : ι → World → Prop} (h : ∀ i, JC P n Q (W' i) c E) : JC P n Q (fun w => ∃ i, W' i w) c E := fun a w ha ⟨i, hw⟩ => h i a w ha hw
theorem jc_pure {c : Code} {p : Prop} (hp : ∀ w, W w → p) (h : p → JC P n Q W c E) : JC P n Q W c E := fun a w ha hw => h (hp w hw) a w ha hw

theorem jq_then {c : Code} (h : JC P n Q W c E) : JQ n (Exit.then (c.wp P Q) Q) W .normal E := h
theorem jq_then_exit {K : Act → World → Prop} {id : Nat} (h : JQ n Q W (.exit id) E) : JQ n (Exit.then K Q) W (.exit id) E := h
theorem jq_then_ret {K : Act → World → Prop} (h : JQ n Q W .ret E) : JQ n (Exit.then K Q) W .ret E := h
theorem jq_then_goto {K : Act → World → Prop} {l : Nat} (h : JQ n Q W (.goto l) E) : JQ n (Exit.then K Q) W (.goto l) E := h
theorem jq_hit {id : Nat} (h : JQ n Q W .normal E) : JQ n (Exit.inBlock id Q) W (.exit id) E := fun a w ha hw => by
  unfold Exit.inBlock; simp only [if_true]; exact h a w ha hw
theorem jq_miss {id id' : Nat} (hne : Nat.beq id' id = false) (h : JQ n Q W (.exit id') E) : JQ n (Exit.inBlock id Q) W (.exit id') E := fun a w ha hw => by
  unfold Exit.inBlock; simp only [Nat.ne_of_beq_eq_false hne, if_false]; exact h a w ha hw
theorem jq_block {id : Nat} (h : JQ n Q W .normal E) : JQ n (Exit.inBlock id Q) W .normal E := h
theorem jq_block_ret {id : Nat} (h : JQ n Q W .ret E) : JQ n (Exit.inBlock id Q) W .ret E := h
theorem jq_block_goto {id l : Nat} (h : JQ n Q W (.goto l) E) : JQ n (Exit.inBlock id Q) W (.goto l) E := h
theorem jq_world {e : Exit} {W' : World → Prop} (hk : ∀ w, W w → W' w) (h : JQ n Q W' e E) : JQ n Q W e E := fun a w ha hw => h a w ha (hk w hw)

/-- A LOOP: what is known at each round's head, by an index; a measure of the index that each round lowers. -/
theorem jc_loop {ι : Type} {c : Code} (I : ι → Env) (V : ι → World → Prop) (μ : ι → Nat) (i₀ : ι) (h₀ : Knows E (I i₀)) (h₁ : ∀ w, W w → V i₀ w)
    (round : ∀ i, JC P n (Exit.then (fun a w => ∃ j, μ j < μ i ∧ Holds n (I j) a ∧ V j w) Q) (V i) c (I i)) : JC P n Q W (.loop c) E := by
  intro a w ha hw
  refine wp_loop_ghost (fun m a w => ∃ i, μ i = m ∧ Holds n (I i) a ∧ V i w) (μ i₀) ⟨i₀, rfl, ha.weaken h₀, h₁ w hw⟩ ?_
  rintro m a w ⟨i, rfl, ha, hw⟩
  refine wp_mono (round i a w ha hw) ?_
  intro e a' w' hq
  cases e with
  | normal =>
    obtain ⟨j, hlt, ha', hw'⟩ := hq
    exact ⟨μ j, hlt, j, rfl, ha', hw'⟩
  | exit id => exact hq
  | goto l => exact hq
  | ret => exact hq
  | panic ch => exact hq
  | outgrown => exact hq

/-- A round's end. -/
theorem jq_round {ι : Type} {I : ι → Env} {V : ι → World → Prop} {μ : ι → Nat} {i : ι} (j : ι) (hlt : μ j < μ i) (hk : Knows E (I j)) (hw : ∀ w, W w → V j w) :
    JQ n (Exit.then (fun a w => ∃ j, μ j < μ i ∧ Holds n (I j) a ∧ V j w) Q) W .normal E := fun _ w ha hw' => ⟨j, hlt, ha.weaken hk, hw w hw'⟩
end
end Go.Proofs.Ytghomncegjamfaa
