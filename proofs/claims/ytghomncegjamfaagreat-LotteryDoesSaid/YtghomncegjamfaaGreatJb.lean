/- The calculus, part two: what is known of the memory (blocks of the call's own), and what each step leaves. -/
import Derived.WalkKit
import Derived.WalkSpells
import Derived.WalkLawsBesides
import Derived.Deep.Quiet
import Derived.Deep.LoopGhost
import Derived.KernelRfl
import Derived.Laws.MakeOwn
import Derived.Laws.OwnMore
namespace Go.Proofs.YtghomncegjamfaaGreat
open Go.RowKit

/-! ### What is known of the slots -/
abbrev Env := List (Nat × Value)

def lk : Env → Nat → Option Value
  | [], _ => none
  | p :: E, i => bif Nat.beq p.1 i then some p.2 else lk E i

structure Holds (n : Nat) (E : Env) (a : Act) : Prop where
  nodef : a.defers = []
  size : a.tmps.size = n
  slot : ∀ i v, lk E i = some v → a.tmps[i]? = some v

def ev (E : Env) : Operand → Option Value
  | .tmp t => lk E t
  | .const v => some v
  | .global g => some (.pointer (some ⟨g, 0, none⟩))
  | .func f => some (.func (.func f) #[] #[])

def evs (E : Env) : List Operand → Option (List Value)
  | [] => some []
  | x :: xs => match ev E x with
    | none => none
    | some v => match evs E xs with
      | none => none
      | some vs => some (v :: vs)

section
variable {n : Nat} {E : Env} {a : Act}

theorem Holds.ev (h : Holds n E a) {x : Operand} {v : Value} (hx : ev E x = some v) : a.eval x = v := by
  cases x with
  | tmp t =>
    have := h.slot t v hx
    simp [Act.eval, Array.getD_eq_getD_getElem?, this]
  | const u => exact Option.some.inj hx
  | global g => exact Option.some.inj hx
  | func f => exact Option.some.inj hx

theorem Holds.evs (h : Holds n E a) : ∀ {xs : List Operand} {vs : List Value}, evs E xs = some vs → xs.map a.eval = vs
  | [], vs, hx => by simpa [Go.Proofs.YtghomncegjamfaaGreat.evs] using hx
  | x :: xs, vs, hx => by
    unfold Go.Proofs.YtghomncegjamfaaGreat.evs at hx
    split at hx
    · cases hx
    · rename_i v hv
      split at hx
      · cases hx
      · rename_i us hus
        cases hx
        simp [h.ev hv, Holds.evs h hus]

theorem Holds.put (h : Holds n E a) {d : Nat} (hd : d < n) (v : Value) : Holds n ((d, v) :: E) (a.put (some d) v) := by
  refine ⟨h.nodef, by simp [Act.put, h.size], ?_⟩
  intro i u hi
  unfold lk at hi
  show (a.tmps.setIfInBounds d v)[i]? = some u
  rw [Array.getElem?_setIfInBounds]
  by_cases hdi : d = i
  · subst hdi
    simp at hi
    subst hi
    simp [h.size, hd]
  · have : Nat.beq d i = false := by
      cases hb : Nat.beq d i
      · rfl
      · exact absurd (Nat.eq_of_beq_eq_true hb) hdi
    simp only [this, cond_false] at hi
    rw [if_neg hdi]
    exact h.slot i u hi

/-- 'E' knows all that the list 'F' says. -/
def Knows (E : Env) : Env → Prop
  | [] => True
  | p :: F => lk E p.1 = some p.2 ∧ Knows E F

theorem Knows.lk {E : Env} : ∀ {F : Env}, Knows E F → ∀ i v, lk F i = some v → lk E i = some v
  | [], _, i, v, h => by cases h
  | p :: F, hk, i, v, h => by
    unfold Go.Proofs.YtghomncegjamfaaGreat.lk at h
    cases hb : Nat.beq p.1 i
    · rw [hb] at h
      exact Knows.lk hk.2 i v h
    · rw [hb] at h
      cases h
      have := Nat.eq_of_beq_eq_true hb
      subst this
      exact hk.1

theorem Holds.weaken {F : Env} (h : Holds n E a) (hk : Knows E F) : Holds n F a :=
  ⟨h.nodef, h.size, fun i v hi => h.slot i v (hk.lk i v hi)⟩

theorem lk_int {k : IntKind} {x y : Int} {i : Nat} (h : lk E i = some (.int k x)) (e : x = y) : lk E i = some (.int k y) := e ▸ h
theorem lk_str {x y : ByteArray} {i : Nat} (h : lk E i = some (.string x)) (e : x = y) : lk E i = some (.string y) := e ▸ h
theorem lk_bool {x y : Bool} {i : Nat} (h : lk E i = some (.bool x)) (e : x = y) : lk E i = some (.bool y) := e ▸ h
theorem lk_val {x y : Value} {i : Nat} (h : lk E i = some x) (e : x = y) : lk E i = some y := e ▸ h
end

/-! ### Does an operation's guard let it be carried out? -/
def want (ops : Array Oper) (E : Env) (o : Oper) : Option Bool :=
  match o.guard with
  | none => some true
  | some (j, b) => match ops[j]? with
    | none => none
    | some oj => match oj.dst with
      | none => none
      | some d => match lk E d with
        | some (.bool c) => some (c == b)
        | some (.tuple _) => some false
        | _ => none

theorem want_spec {n : Nat} {ops : Array Oper} {E : Env} {o : Oper} {a : Act} {b : Bool} (h : Holds n E a) (hw : want ops E o = some b) : Region.wanted o (yielded ops a.tmps) = b := by
  unfold want at hw
  unfold Region.wanted
  split at hw
  · rename_i hg
    rw [hg]; simpa using hw
  · rename_i j c hg
    rw [hg]
    simp only
    split at hw
    · cases hw
    · rename_i oj hoj
      split at hw
      · cases hw
      · rename_i d hd
        split at hw
        · rename_i u hu
          have := h.slot d _ hu
          cases hw
          simp only [yielded, hoj, hd, Option.bind_some, this]
          cases u <;> cases c <;> rfl
        · rename_i u hu
          have := h.slot d _ hu
          cases hw
          simp only [yielded, hoj, hd, Option.bind_some, this]
          rfl
        · cases hw

/-! ### The judgements -/
section
variable (P : Program) (n : Nat) (Q : Exit → Act → World → Prop) (W : World → Prop)
/-- A piece of code, from every frame and world of which this is known. -/
def JC (c : Code) (E : Env) : Prop := ∀ a w, Holds n E a → W w → c.wp P Q a w
/-- The code is left so. -/
def JQ (e : Exit) (E : Env) : Prop := ∀ a w, Holds n E a → W w → Q e a w
/-- The operations that are left of a region, in the text's order. -/
def JL (ops : Array Oper) (rest : List Oper) (E : Env) : Prop := ∀ a w, Holds n E a → W w → wpList P ops Q rest a w
/-- The same for a region that draws its order, and whose operations each leave a world of which the same is known. -/
def JU (ops : Array Oper) (rest : List Oper) (E : Env) : Prop := ∀ a, Holds n E a → wpQuiet P ops W (fun a' => ∀ w, W w → Q .normal a' w) rest a
end

section
variable {P : Program} {n : Nat} {Q : Exit → Act → World → Prop} {W : World → Prop} {E : Env}

theorem jc_seq {x y : Code} (h : JC P n (Exit.then (y.wp P Q) Q) W x E) : JC P n Q W (.seq x y) E := fun a w ha hw => wp_seq (h a w ha hw)
theorem jc_skip (h : JQ n Q W .normal E) : JC P n Q W .skip E := fun a w ha hw => wp_skip (h a w ha hw)
theorem jc_exit {id : Nat} (h : JQ n Q W (.exit id) E) : JC P n Q W (.exit id) E := fun a w ha hw => wp_exit (h a w ha hw)
theorem jc_ret (h : JQ n Q W .ret E) : JC P n Q W .ret E := fun a w ha hw => wp_ret (h a w ha hw)
theorem jc_block {id : Nat} {c : Code} (h : JC P n (Exit.inBlock id Q) W c E) : JC P n Q W (.block id c) E := fun a w ha hw => wp_block (h a w ha hw)
theorem jc_true {c : Operand} {x y : Code} (hc : ev E c = some (.bool true)) (h : JC P n Q W x E) : JC P n Q W (.cond c x y) E :=
  fun a w ha hw => wp_cond_true (ha.ev hc) (h a w ha hw)
theorem jc_false {c : Operand} {x y : Code} (hc : ev E c = some (.bool false)) (h : JC P n Q W y E) : JC P n Q W (.cond c x y) E :=
  fun a w ha hw => wp_cond_false (ha.ev hc) (h a w ha hw)
theorem jc_cond {c : Operand} {x y : Code} {b : Bool} (hc : ev E c = some (.bool b)) (h1 : b = true → JC P n Q W x E) (h2 : b = false → JC P n Q W y E) : JC P n Q W (.cond c x y) E :=
  fun a w ha hw => wp_cond_split (ha.ev hc) (fun h => h1 h a w ha hw) (fun h => h2 h a w ha hw)
theorem jc_prop {c : Operand} {x y : Code} {p : Prop} [Decidable p] (hc : ev E c = some (.bool (decide p))) (h1 : p → JC P n Q W x E) (h2 : ¬ p → JC P n Q W y E) : JC P n Q W (.cond c x y) E :=
  jc_cond hc (fun h => h1 (of_decide_eq_true h)) (fun h => h2 (of_decide_eq_false h))
theorem jc_region {id : Nat} {l : List Oper} (h : JL P n Q W l.toArray l E) : JC P n Q W (.region id l.toArray false) E := fun a w ha hw => wp_region_lit (h a w ha hw)
theorem jc_weaken {c : Code} {F : Env} (hk : Knows E F) (h : JC P n Q W c F) : JC P n Q W c E := fun a w ha hw => h a w (ha.weaken hk) hw
theorem jc_world {c : Code} {W' : World → Prop} (hk : ∀ w, W w → W' w) (h : JC P n Q W' c E) : JC P n Q W c E := fun a w ha hw => h a w ha (hk w hw)
theorem jc_ex {ι : Type} {c : Code} {W' : ι → World → Prop} (h : ∀ i, JC P n Q (W' i) c E) : JC P n Q (fun w => ∃ i, W' i w) c E := fun a w ha ⟨i, hw⟩ => h i a w ha hw
theorem jc_pure {c : Code} {p : Prop} (hp : ∀ w, W w → p) (h : p → JC P n Q W c E) : JC P n Q W c E := fun a w ha hw => h (hp w hw) a w ha hw

theorem jq_then {c : Code} (h : JC P n Q W c E) : JQ n (Exit.then (c.wp P Q) Q) W .normal E := h
theorem jq_then_exit {K : Act → World → Prop} {id : Nat} (h : JQ n Q W (.exit id) E) : JQ n (Exit.then K Q) W (.exit id) E := h
theorem jq_then_ret {K : Act → World → Prop} (h : JQ n Q W .ret E) : JQ n (Exit.then K Q) W .ret E := h
theorem jq_then_goto {K : Act → World → Prop} {l : Nat} (h : JQ n Q W (.goto l) E) : JQ n (Exit.then K Q) W (.goto l) E := h
theorem jq_hit {id : Nat} (h : JQ n Q W .normal E) : JQ n (Exit.inBlock id Q) W (.exit id) E := fun a w ha hw => by
  unfold Exit.inBlock; simp only [if_true]; exact h a w ha hw
theorem jq_miss {id id' : Nat} (hne : Nat.beq id' id = false) (h : JQ n Q W (.exit id') E) : JQ n (Exit.inBlock id Q) W (.exit id') E := fun a w ha hw => by
  unfold Exit.inBlock; simp only [Nat.ne_of_beq_eq_false hne, if_false]; exact h a w ha hw
theorem jq_block {id : Nat} (h : JQ n Q W .normal E) : JQ n (Exit.inBlock id Q) W .normal E := h
theorem jq_block_ret {id : Nat} (h : JQ n Q W .ret E) : JQ n (Exit.inBlock id Q) W .ret E := h
theorem jq_block_goto {id l : Nat} (h : JQ n Q W (.goto l) E) : JQ n (Exit.inBlock id Q) W (.goto l) E := h
theorem jq_world {e : Exit} {W' : World → Prop} (hk : ∀ w, W w → W' w) (h : JQ n Q W' e E) : JQ n Q W e E := fun a w ha hw => h a w ha (hk w hw)

/-- A LOOP: what is known at each round's head, by an index; a measure of the index that each round lowers. -/
theorem jc_loop {ι : Type} {c : Code} (I : ι → Env) (V : ι → World → Prop) (μ : ι → Nat) (i₀ : ι) (h₀ : Knows E (I i₀)) (h₁ : ∀ w, W w → V i₀ w)
    (round : ∀ i, JC P n (Exit.then (fun a w => ∃ j, μ j < μ i ∧ Holds n (I j) a ∧ V j w) Q) (V i) c (I i)) : JC P n Q W (.loop c) E := by
  intro a w ha hw
  refine wp_loop_ghost (fun m a w => ∃ i, μ i = m ∧ Holds n (I i) a ∧ V i w) (μ i₀) ⟨i₀, rfl, ha.weaken h₀, h₁ w hw⟩ ?_
  rintro m a w ⟨i, rfl, ha, hw⟩
  refine wp_mono (round i a w ha hw) ?_
  intro e a' w' hq
  cases e with
  | normal =>
    obtain ⟨j, hlt, ha', hw'⟩ := hq
    exact ⟨μ j, hlt, j, rfl, ha', hw'⟩
  | exit id => exact hq
  | goto l => exact hq
  | ret => exact hq
  | panic ch => exact hq
  | outgrown => exact hq

/-- A round's end. -/
theorem jq_round {ι : Type} {I : ι → Env} {V : ι → World → Prop} {μ : ι → Nat} {i : ι} (j : ι) (hlt : μ j < μ i) (hk : Knows E (I j)) (hw : ∀ w, W w → V j w) :
    JQ n (Exit.then (fun a w => ∃ j, μ j < μ i ∧ Holds n (I j) a ∧ V j w) Q) W .normal E := fun _ w ha hw' => ⟨j, hlt, ha.weaken hk, hw w hw'⟩
end
end Go.Proofs.YtghomncegjamfaaGreat

namespace Go.Proofs.YtghomncegjamfaaGreat
open Go.RowKit

/-- 'w'' is 'w' with new blocks; of the old ones those of S may have been written. -/
structure Ch (S : List Nat) (w w' : World) : Prop where
  os : w'.os = w.os
  tape : w'.tape = w.tape
  output : w'.output = w.output
  size : w.heap.size ≤ w'.heap.size
  block : ∀ k, k < w.heap.size → k ∉ S → w'.heap[k]? = w.heap[k]?

theorem Ch.refl (S : List Nat) (w : World) : Ch S w w := ⟨rfl, rfl, rfl, Nat.le_refl _, fun _ _ _ => rfl⟩
theorem Ch.trans {S T : List Nat} {a b c : World} (h : Ch S a b) (k : Ch T b c) (hT : ∀ x ∈ T, x ∈ S ∨ a.heap.size ≤ x) : Ch S a c :=
  ⟨k.os.trans h.os, k.tape.trans h.tape, k.output.trans h.output, Nat.le_trans h.size k.size, fun x hx hS =>
    (k.block x (Nat.lt_of_lt_of_le hx h.size) (fun hxT => (hT x hxT).elim hS (fun hle => Nat.lt_irrefl _ (Nat.lt_of_lt_of_le hx hle)))).trans (h.block x hx hS)⟩
theorem Ch.then {S : List Nat} {a b c : World} (h : Ch S a b) (k : Ch [] b c) : Ch S a c := h.trans k (fun _ hx => by cases hx)
theorem Ch.mono {S T : List Nat} {a b : World} (h : Ch S a b) (hs : ∀ x ∈ S, x ∈ T) : Ch T a b :=
  ⟨h.os, h.tape, h.output, h.size, fun k hk hT => h.block k hk (fun hS => hT (hs k hS))⟩
theorem Ch.below {w w' : World} (h : Ch [] w w') : Below w.heap.size w w' := ⟨h.os, h.tape, h.output, h.size, fun k hk => h.block k hk (by simp)⟩
theorem Ch.of_below {w w' : World} (h : Below w.heap.size w w') : Ch [] w w' := ⟨h.os, h.tape, h.output, h.size, fun k hk _ => h.block k hk⟩
theorem Ch.drew {S : List Nat} {a w : World} (h : Ch S a w) : Ch S a w.drew := ⟨h.os, h.tape, h.output, h.size, h.block⟩
theorem Ch.alloc (w : World) (o : Obj) : Ch [] w (w.alloc o) := ⟨rfl, rfl, rfl, by simp, fun k hk _ => by show (w.alloc o).heap[k]? = _; exact Below.heap_alloc w o k hk⟩
theorem Ch.of_grown {w w' : World} {row : Option Nat} (h : w.grownBy w' row) : Ch row.toList w w' :=
  ⟨h.os, h.tape, h.output, h.size, fun k hk hS => h.block k hk (fun e => hS (by rw [← e]; simp))⟩
theorem Ch.cell {S : List Nat} {w w' : World} (h : Ch S w w') {p : Addr} (hp : p.block < w.heap.size) (hS : p.block ∉ S) : w'.cell? p = w.cell? p := World.cell?_of_block (h.block p.block hp hS)

/-- What is known of a block: a row of just these cells, none of them frozen; a slice that may be appended to; an object. -/
inductive HA where
  | cells (b : Nat) (vs : List Value)
  | row (a : Option Addr) (n cap e size : Nat) (xs : List Value)
  | obj (b : Nat) (o : Obj)

def HA.foot : HA → Option Nat
  | .cells b _ => some b
  | .row a _ _ _ _ _ => a.map (·.block)
  | .obj b _ => some b

/-- A block of just these cells. -/
def Cells (w : World) (b : Nat) (vs : List Value) : Prop :=
  ∃ e fr, w.heap[b]? = some (.cells vs.toArray e fr) ∧ ∀ off, off < vs.length → (decide (fr.1 ≤ off) && decide (off < fr.2)) = false

def HA.ok (w : World) : HA → Prop
  | .cells b vs => Cells w b vs
  | .row a n cap e size xs => w.ownsRow 0 e size (.slice a n cap) n xs
  | .obj b o => w.heap[b]? = some o

theorem Cells.cell {w : World} {b : Nat} {vs : List Value} (h : Cells w b vs) (off : Nat) : w.cell? ⟨b, off, none⟩ = vs[off]? := by
  obtain ⟨e, fr, hb, _⟩ := h
  simp [World.cell?, hb]
theorem Cells.free {w : World} {b : Nat} {vs : List Value} (h : Cells w b vs) {off : Nat} (ho : off < vs.length) : w.frozen? ⟨b, off, none⟩ = false := by
  obtain ⟨e, fr, hb, hf⟩ := h
  have := hf off ho
  simpa [World.frozen?, hb] using this
theorem Cells.lt {w : World} {b : Nat} {vs : List Value} (h : Cells w b vs) : b < w.heap.size := by
  obtain ⟨e, fr, hb, _⟩ := h
  exact (Array.getElem?_eq_some_iff.1 hb).1
theorem Cells.of_block {w w' : World} {b : Nat} {vs : List Value} (h : Cells w b vs) (hb : w'.heap[b]? = w.heap[b]?) : Cells w' b vs := by
  obtain ⟨e, fr, hb', hf⟩ := h
  exact ⟨e, fr, hb.trans hb', hf⟩
theorem Cells.new (w : World) (vs : List Value) (c : Array Value) (e : Nat) (hc : c.toList = vs) : Cells (w.alloc (.cells c e)) w.heap.size vs :=
  ⟨e, (0, 0), by rw [heap_alloc_new, ← hc], by simp⟩
theorem Cells.set {w : World} {b : Nat} {vs : List Value} (h : Cells w b vs) (off : Nat) (v : Value) : Cells (w.setCell ⟨b, off, none⟩ v) b (vs.set off v) := by
  obtain ⟨e, fr, hb, hf⟩ := h
  refine ⟨e, fr, ?_, by simpa using hf⟩
  simp [World.setCell, Array.getElem?_modify, hb]

theorem HA.lt {w : World} {A : HA} (h : A.ok w) {k : Nat} (hk : A.foot = some k) : k < w.heap.size := by
  cases A with
  | cells b vs => obtain rfl : b = k := by simpa [HA.foot] using hk
                  exact Cells.lt h
  | row a n cap e size xs =>
    cases a with
    | none => cases hk
    | some ad => exact (World.ownsRow.lt h k (by simpa [HA.foot, Value.ownBlock] using hk)).2
  | obj b o => obtain rfl : b = k := by simpa [HA.foot] using hk
               exact (Array.getElem?_eq_some_iff.1 (h : w.heap[b]? = some o)).1

theorem HA.kept {w w' : World} {A : HA} (h : A.ok w) (hk : ∀ k, A.foot = some k → w'.heap[k]? = w.heap[k]?) : A.ok w' := by
  cases A with
  | cells b vs => exact Cells.of_block h (hk b rfl)
  | row a n cap e size xs =>
    obtain ⟨h1, h2⟩ := (h : w.ownsRow 0 e size (.slice a n cap) n xs)
    refine ⟨h1, ?_⟩
    rcases h2 with h2 | ⟨g, c, cur, hv, hb, hg, r⟩
    · exact .inl h2
    · refine .inr ⟨g, c, cur, hv, hb, ?_, r⟩
      cases hv
      exact (hk g rfl).trans hg
  | obj b o => exact (hk b rfl).trans h

/-- The memory at this place of a call that began in the world w0, and may write those blocks of it that S names: besides those, w0 is as it was; the blocks of H, no two of them one, are the call's own (or of S), and hold this. -/
structure Hp (w0 : World) (S : List Nat) (H : List HA) (w : World) : Prop where
  ch : Ch S w0 w
  ok : ∀ A ∈ H, A.ok w
  own : ∀ A ∈ H, ∀ k, A.foot = some k → w0.heap.size ≤ k ∨ k ∈ S
  apart : H.Pairwise (fun A B => ∀ k, A.foot = some k → B.foot ≠ some k)

/-- 'H'' is 'H' with A' in the place of one A. -/
inductive Rep (A A' : HA) : List HA → List HA → Prop where
  | head {H : List HA} : Rep A A' (A :: H) (A' :: H)
  | tail {B : HA} {H H' : List HA} : Rep A A' H H' → Rep A A' (B :: H) (B :: H')
/-- 'H'' is 'H' without one A. -/
inductive Del (A : HA) : List HA → List HA → Prop where
  | head {H : List HA} : Del A (A :: H) H
  | tail {B : HA} {H H' : List HA} : Del A H H' → Del A (B :: H) (B :: H')
/-- 'F' is a part of 'H', in whatever order. -/
inductive Part : List HA → List HA → Prop where
  | nil {H : List HA} : Part [] H
  | cons {A : HA} {F H H' : List HA} : Del A H H' → Part F H' → Part (A :: F) H

section
variable {A A' B C D F G : HA} {H H' : List HA}
theorem mem0 : A ∈ A :: H := .head _
theorem mem1 : A ∈ B :: A :: H := .tail _ (.head _)
theorem mem2 : A ∈ B :: C :: A :: H := .tail _ (.tail _ (.head _))
theorem mem3 : A ∈ B :: C :: D :: A :: H := .tail _ (.tail _ (.tail _ (.head _)))
theorem mem4 : A ∈ B :: C :: D :: F :: A :: H := .tail _ (.tail _ (.tail _ (.tail _ (.head _))))
theorem mem5 : A ∈ B :: C :: D :: F :: G :: A :: H := .tail _ (.tail _ (.tail _ (.tail _ (.tail _ (.head _)))))
theorem rep0 : Rep A A' (A :: H) (A' :: H) := .head
theorem rep1 : Rep A A' (B :: A :: H) (B :: A' :: H) := .tail .head
theorem rep2 : Rep A A' (B :: C :: A :: H) (B :: C :: A' :: H) := .tail (.tail .head)
theorem rep3 : Rep A A' (B :: C :: D :: A :: H) (B :: C :: D :: A' :: H) := .tail (.tail (.tail .head))
theorem rep4 : Rep A A' (B :: C :: D :: F :: A :: H) (B :: C :: D :: F :: A' :: H) := .tail (.tail (.tail (.tail .head)))
theorem del0 : Del A (A :: H) H := .head
theorem del1 : Del A (B :: A :: H) (B :: H) := .tail .head
theorem del2 : Del A (B :: C :: A :: H) (B :: C :: H) := .tail (.tail .head)
theorem del3 : Del A (B :: C :: D :: A :: H) (B :: C :: D :: H) := .tail (.tail (.tail .head))
theorem del4 : Del A (B :: C :: D :: F :: A :: H) (B :: C :: D :: F :: H) := .tail (.tail (.tail (.tail .head)))
end

section
variable {w0 w w' : World} {S : List Nat} {H H' : List HA} {A A' : HA}

theorem Rep.mem (r : Rep A A' H H') : A ∈ H := by induction r with | head => simp | tail _ ih => simp [ih]
theorem Rep.mem' (r : Rep A A' H H') : A' ∈ H' := by induction r with | head => simp | tail _ ih => simp [ih]
theorem Rep.old (r : Rep A A' H H') {B : HA} (h : B ∈ H') : B = A' ∨ B ∈ H := by
  induction r with
  | head => rcases List.mem_cons.1 h with h | h <;> simp [h]
  | tail _ ih => rcases List.mem_cons.1 h with h | h; · simp [h]
                 · rcases ih h with h | h <;> simp [h]
theorem Del.perm (d : Del A H H') : H.Perm (A :: H') := by
  induction d with
  | head => exact .refl _
  | tail _ ih => exact (List.Perm.cons _ ih).trans (List.Perm.swap _ _ _)

abbrev Apart (A B : HA) : Prop := ∀ k, A.foot = some k → B.foot ≠ some k
theorem Apart.symm {A B : HA} (h : Apart A B) : Apart B A := fun k hb ha => h k ha hb

theorem Hp.nil (w0 : World) (S : List Nat) : Hp w0 S [] w0 := ⟨.refl _ _, by simp, by simp, .nil⟩
theorem Hp.get (h : Hp w0 S H w) (hm : A ∈ H) : A.ok w := h.ok A hm
theorem Hp.perm (h : Hp w0 S H w) (p : H.Perm H') : Hp w0 S H' w :=
  ⟨h.ch, fun A hA => h.ok A (p.mem_iff.2 hA), fun A hA => h.own A (p.mem_iff.2 hA), (p.pairwise_iff (fun h => Apart.symm h)).1 h.apart⟩
theorem Hp.pop (h : Hp w0 S (A :: H) w) : Hp w0 S H w :=
  ⟨h.ch, fun B hB => h.ok B (by simp [hB]), fun B hB => h.own B (by simp [hB]), (List.pairwise_cons.1 h.apart).2⟩
theorem Hp.del (h : Hp w0 S H w) (d : Del A H H') : Hp w0 S H' w := (h.perm d.perm).pop
theorem Hp.cons (h : Hp w0 S H w) (hA : A.ok w) (hown : ∀ k, A.foot = some k → w0.heap.size ≤ k ∨ k ∈ S) (hap : ∀ B ∈ H, Apart A B) : Hp w0 S (A :: H) w :=
  ⟨h.ch, fun B hB => (List.mem_cons.1 hB).elim (fun e => e ▸ hA) (h.ok B), fun B hB => (List.mem_cons.1 hB).elim (fun e => e ▸ hown) (h.own B), List.pairwise_cons.2 ⟨hap, h.apart⟩⟩
theorem Hp.part (h : Hp w0 S H w) {F : List HA} (p : Part F H) : Hp w0 S F w := by
  induction p with
  | nil => exact ⟨h.ch, by simp, by simp, .nil⟩
  | @cons A F H H' d p ih =>
    have h1 := h.perm d.perm
    have hF := ih h1.pop
    refine hF.cons (h1.ok A (by simp)) (h1.own A (by simp)) ?_
    have hap := (List.pairwise_cons.1 h1.apart).1
    clear ih hF h1 h d
    intro B hB
    have : ∀ {F H' : List HA}, Part F H' → ∀ B ∈ F, B ∈ H' := by
      intro F H' p
      induction p with
      | nil => intro B hB; cases hB
      | cons d _ ih =>
        intro B hB
        rcases List.mem_cons.1 hB with rfl | hB
        · exact d.perm.mem_iff.2 (by simp)
        · exact d.perm.mem_iff.2 (by simp [ih B hB])
    exact hap B (this p B hB)
/-- A step that writes the blocks of T alone, none of which H speaks of. -/
theorem Hp.frame {T : List Nat} (h : Hp w0 S H w) (c : Ch T w w') (hT : ∀ k ∈ T, k ∈ S ∨ w0.heap.size ≤ k) (hH : ∀ A ∈ H, ∀ k, A.foot = some k → k ∉ T) : Hp w0 S H w' :=
  ⟨h.ch.trans c hT, fun A hA => HA.kept (h.ok A hA) (fun k hk => c.block k (HA.lt (h.ok A hA) hk) (hH A hA k hk)), h.own, h.apart⟩
/-- A step that writes no block. -/
theorem Hp.pure (h : Hp w0 S H w) (c : Ch [] w w') : Hp w0 S H w' := h.frame c (by simp) (by simp)
/-- A step that writes no block, and makes one. -/
theorem Hp.new (h : Hp w0 S H w) (c : Ch [] w w') (hA : A.ok w') (hn : ∀ k, A.foot = some k → w.heap.size ≤ k) : Hp w0 S (A :: H) w' := by
  refine (h.pure c).cons hA (fun k hk => .inl (Nat.le_trans h.ch.size (hn k hk))) ?_
  intro B hB k hk hb
  have := HA.lt (h.ok B hB) hb
  have := hn k hk
  omega
/-- A step that writes the block of one A alone. -/
theorem Hp.upd {T : List Nat} (h : Hp w0 S H w) (r : Rep A A' H H') (c : Ch T w w') (hT : ∀ k ∈ T, A.foot = some k) (hA : A'.ok w')
    (hf : ∀ k, A'.foot = some k → A.foot = some k ∨ w.heap.size ≤ k) : Hp w0 S H' w' := by
  induction r with
  | @head H =>
    have hap := (List.pairwise_cons.1 h.apart).1
    have hr : Hp w0 S H w' := h.pop.frame c (fun k hk => (h.own A (by simp) k (hT k hk)).symm) (fun B hB k hk hkT => hap B hB k (hT k hkT) hk)
    refine hr.cons hA ?_ ?_
    · intro k hk
      rcases hf k hk with h1 | h1
      · exact h.own A (by simp) k h1
      · exact .inl (Nat.le_trans h.ch.size h1)
    · intro B hB k hk hb
      rcases hf k hk with h1 | h1
      · exact hap B hB k h1 hb
      · have := HA.lt (h.ok B (by simp [hB])) hb
        omega
  | @tail B H H' r ih =>
    have hap := (List.pairwise_cons.1 h.apart).1
    have h1 := ih h.pop
    have hBA : Apart B A := hap A r.mem
    refine h1.cons (HA.kept (h.ok B (by simp)) (fun k hk => c.block k (HA.lt (h.ok B (by simp)) hk) (fun hkT => hBA k hk (hT k hkT)))) (h.own B (by simp)) ?_
    intro D hD k hk hd
    rcases r.old hD with rfl | hD
    · rcases hf k hd with h2 | h2
      · exact hBA k hk h2
      · have := HA.lt (h.ok B (by simp)) hk
        omega
    · exact hap D hD k hk hd
theorem Hp.cell (h : Hp w0 S H w) {a : Addr} {v : Value} (hc : w0.cell? a = some v) (hS : a.block ∉ S) : w.cell? a = some v := by
  rw [h.ch.cell (World.block_lt_of_cell? w0 a hc) hS]; exact hc
theorem Hp.cast (h : Hp w0 S H w) (e : H = H') : Hp w0 S H' w := e ▸ h
end

/-- Parts of a list. -/
inductive TakeAt {α : Type} : Nat → Nat → List α → List α → Prop where
  | done {vs : List α} : TakeAt 0 0 vs []
  | take {n : Nat} {v : α} {vs cs : List α} : TakeAt 0 n vs cs → TakeAt 0 (n + 1) (v :: vs) (v :: cs)
  | skip {o n : Nat} {v : α} {vs cs : List α} : TakeAt o n vs cs → TakeAt (o + 1) n (v :: vs) cs
theorem TakeAt.eq {α : Type} {o n : Nat} {vs cs : List α} (h : TakeAt o n vs cs) : (vs.drop o).take n = cs ∧ o + n ≤ vs.length := by
  induction h with
  | done => simp
  | take _ ih => refine ⟨by simpa using ih.1, by have := ih.2; simp; omega⟩
  | skip _ ih => refine ⟨by simpa using ih.1, by have := ih.2; simp; omega⟩
/-- A part of a list in the place of another. -/
inductive PutAt {α : Type} : Nat → List α → List α → List α → Prop where
  | done {vs : List α} : PutAt 0 [] vs vs
  | put {u v : α} {us vs cs : List α} : PutAt 0 us vs cs → PutAt 0 (u :: us) (v :: vs) (u :: cs)
  | skip {o : Nat} {v : α} {us vs cs : List α} : PutAt o us vs cs → PutAt (o + 1) us (v :: vs) (v :: cs)
theorem PutAt.eq {α : Type} {o : Nat} {us vs cs : List α} (h : PutAt o us vs cs) : cs = vs.take o ++ us ++ vs.drop (o + us.length) ∧ o + us.length ≤ vs.length := by
  induction h with
  | done => simp
  | put _ ih => refine ⟨by simp at ih; simp [ih.1], by have := ih.2; simp at this ⊢; omega⟩
  | @skip o v us vs cs _ ih =>
    refine ⟨?_, by have := ih.2; simp; omega⟩
    rw [show o + 1 + us.length = (o + us.length) + 1 by omega]
    simp [ih.1]
end Go.Proofs.YtghomncegjamfaaGreat
