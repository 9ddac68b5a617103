/- The calculus, part two: what is known of the memory (blocks of the call's own), and what each step leaves. -/
import Derived.Test.YtghomncegjamfaaJa
import Derived.Laws.MakeOwn
import Derived.Laws.OwnMore
namespace Go.Proofs.Ytghomncegjamfaa
open Go.RowKit

/-- 'w'' is 'w' with new blocks; of the old ones those of S may have been written. -/
structure Ch (S : List Nat) (w w' : World) : Prop where
  os : w'.os = w.os
  tape : w'.tape = w.tape
  output : w'.output = w.output
  size : w.heap.size ≤ w'.heap.size
  block : ∀ k, k < w.heap.size → k ∉ S → w'.heap[k]? = w.heap[k]?

theorem Ch.refl (S : List Nat) (w : World) : Ch S w w := ⟨rfl, rfl, rfl, Nat.le_refl _, fun _ _ _ => rfl⟩
theorem Ch.trans {S T : List Nat} {a b c : World} (h : Ch S a b) (k : Ch T b c) (hT : ∀ x ∈ T, x ∈ S ∨ a.heap.size ≤ x) : Ch S a c :=
  ⟨k.os.trans h.os, k.tape.trans h.tape, k.output.trans h.output, Nat.le_trans h.size k.size, fun x hx hS =>
    (k.block x (Nat.lt_of_lt_of_le hx h.size) (fun hxT => (hT x hxT).elim hS (fun hle => Nat.lt_irrefl _ (Nat.lt_of_lt_of_le hx hle)))).trans (h.block x hx hS)⟩
theorem Ch.then {S : List Nat} {a b c : World} (h : Ch S a b) (k : Ch [] b c) : Ch S a c := h.trans k (fun _ hx => by cases hx)
theorem Ch.mono {S T : List Nat} {a b : World} (h : Ch S a b) (hs : ∀ x ∈ S, x ∈ T) : Ch T a b :=
  ⟨h.os, h.tape, h.output, h.size, fun k hk hT => h.block k hk (fun hS => hT (hs k hS))⟩
theorem Ch.below {w w' : World} (h : Ch [] w w') : Below w.heap.size w w' := ⟨h.os, h.tape, h.output, h.size, fun k hk => h.block k hk (by simp)⟩
theorem Ch.of_below {w w' : World} (h : Below w.heap.size w w') : Ch [] w w' := ⟨h.os, h.tape, h.output, h.size, fun k hk _ => h.block k hk⟩
theorem Ch.drew {S : List Nat} {a w : World} (h : Ch S a w) : Ch S a w.drew := ⟨h.os, h.tape, h.output, h.size, h.block⟩
theorem Ch.alloc (w : World) (o : Obj) : Ch [] w (w.alloc o) := ⟨rfl, rfl, rfl, by simp, fun k hk _ => by show (w.alloc o).heap[k]? = _; exact Below.heap_alloc w o k hk⟩
theorem Ch.of_grown {w w' : World} {row : Option Nat} (h : w.grownBy w' row) : Ch row.toList w w' :=
  ⟨h.os, h.tape, h.output, h.size, fun k hk hS => h.block k hk (fun e => hS (by rw [← e]; simp))⟩
theorem Ch.cell {S : List Nat} {w w' : World} (h : Ch S w w') {p : Addr} (hp : p.block < w.heap.size) (hS : p.block ∉ S) : w'.cell? p = w.cell? p := World.cell?_of_block (h.block p.block hp hS)

/-- What is known of a block: a row of just these cells, none of them frozen; a slice that may be appended to; an object. -/
inductive HA where
  | cells (b : Nat) (vs : List Value)
  | row (a : Option Addr) (n cap e size : Nat) (xs : List Value)
  | obj (b : Nat) (o : Obj)

def HA.foot : HA → Option Nat
  | .cells b _ => some b
  | .row a _ _ _ _ _ => a.map (·.block)
  | .obj b _ => some b

/-- A block of just these cells. -/
def Cells (w : World) (b : Nat) (vs : List Value) : Prop :=
  ∃ e fr, w.heap[b]? = some (.cells vs.toArray e fr) ∧ ∀ off, off < vs.length → (decide (fr.1 ≤ off) && decide (off < fr.2)) = false

def HA.ok (w : World) : HA → Prop
  | .cells b vs => Cells w b vs
  | .row a n cap e size xs => w.ownsRow 0 e size (.slice a n cap) n xs
  | .obj b o => w.heap[b]? = some o

theorem Cells.cell {w : World} {b : Nat} {vs : List Value} (h : Cells w b vs) (off : Nat) : w.cell? ⟨b, off, none⟩ = vs[off]? := by
  obtain ⟨e, fr, hb, _⟩ := h
  simp [World.cell?, hb]
theorem Cells.free {w : World} {b : Nat} {vs : List Value} (h : Cells w b vs) {off : Nat} (ho : off < vs.length) : w.frozen? ⟨b, off, none⟩ = false := by
  obtain ⟨e, fr, hb, hf⟩ := h
  have := hf off ho
  simpa [World.frozen?, hb] using this
theorem Cells.lt {w : World} {b : Nat} {vs : List Value} (h : Cells w b vs) : b < w.heap.size := by
  obtain ⟨e, fr, hb, _⟩ := h
  exact (Array.getElem?_eq_some_iff.1 hb).1
theorem Cells.of_block {w w' : World} {b : Nat} {vs : List Value} (h : Cells w b vs) (hb : w'.heap[b]? = w.heap[b]?) : Cells w' b vs := by
  obtain ⟨e, fr, hb', hf⟩ := h
  exact ⟨e, fr, hb.trans hb', hf⟩
theorem Cells.new (w : World) (vs : List Value) (c : Array Value) (e : Nat) (hc : c.toList = vs) : Cells (w.alloc (.cells c e)) w.heap.size vs :=
  ⟨e, (0, 0), by rw [heap_alloc_new, ← hc], by simp⟩
theorem Cells.set {w : World} {b : Nat} {vs : List Value} (h : Cells w b vs) (off : Nat) (v : Value) : Cells (w.setCell ⟨b, off, none⟩ v) b (vs.set off v) := by
  obtain ⟨e, fr, hb, hf⟩ := h
  refine ⟨e, fr, ?_, by simpa using hf⟩
  simp [World.setCell, Array.getElem?_modify, hb]

theorem HA.lt {w : World} {A : HA} (h : A.ok w) {k : Nat} (hk : A.foot = some k) : k < w.heap.size := by
  cases A with
  | cells b vs => obtain rfl : b = k := by simpa [HA.foot] using hk
                  exact Cells.lt h
  | row a n cap e size xs =>
    cases a with
    | none => cases hk
    | some ad => exact (World.ownsRow.lt h k (by simpa [HA.foot, Value.ownBlock] using hk)).2
  | obj b o => obtain rfl : b = k := by simpa [HA.foot] using hk
               exact (Array.getElem?_eq_some_iff.1 (h : w.heap[b]? = some o)).1

theorem HA.kept {w w' : World} {A : HA} (h : A.ok w) (hk : ∀ k, A.foot = some k → w'.heap[k]? = w.heap[k]?) : A.ok w' := by
  cases A with
  | cells b vs => exact Cells.of_block h (hk b rfl)
  | row a n cap e size xs =>
    obtain ⟨h1, h2⟩ := (h : w.ownsRow 0 e size (.slice a n cap) n xs)
    refine ⟨h1, ?_⟩
    rcases h2 with h2 | ⟨g, c, cur, hv, hb, hg, r⟩
    · exact .inl h2
    · refine .inr ⟨g, c, cur, hv, hb, ?_, r⟩
      cases hv
      exact (hk g rfl).trans hg
  | obj b o => exact (hk b rfl).trans h

/-- The memory at this place of a call that began in the world w0, and may write those blocks of it that S names: besides those, w0 is as it was; the blocks of H, no two of them one, are the call's own (or of S), and hold this. -/
structure Hp (w0 : World) (S : List Nat) (H : List HA) (w : World) : Prop where
  ch : Ch S w0 w
  ok : ∀ A ∈ H, A.ok w
  own : ∀ A ∈ H, ∀ k, A.foot = some k → w0.heap.size ≤ k ∨ k ∈ S
  apart : H.Pairwise (fun A B => ∀ k, A.foot = some k → B.foot ≠ some k)

/-- 'H'' is 'H' with A' in the place of one A. -/
inductive Rep (A A' : HA) : List HA → List HA → Prop where
  | head {H : List HA} : Rep A A' (A :: H) (A' :: H)
  | tail {B : HA} {H H' : List HA} : Rep A A' H H' → Rep A A' (B :: H) (B :: H')
/-- 'H'' is 'H' without one A. -/
inductive Del (A : HA) : List HA → List HA → Prop where
  | head {H : List HA} : Del A (A :: H) H
  | tail {B : HA} {H H' : List HA} : Del A H H' → Del A (B :: H) (B :: H')
/-- 'F' is a part of 'H', in whatever order. -/
inductive Part : List HA → List HA → Prop where
  | nil {H : List HA} : Part [] H
  | cons {A : HA} {F H H' : List HA} : Del A H H' → Part F H' → Part (A :: F) H

section
variable {A A' B C D F G : HA} {H H' : List HA}
theorem mem0 : A ∈ A :: H := .head _
theorem mem1 : A ∈ B :: A :: H := .tail _ (.head _)
theorem mem2 : A ∈ B :: C :: A :: H := .tail _ (.tail _ (.head _))
theorem mem3 : A ∈ B :: C :: D :: A :: H := .tail _ (.tail _ (.tail _ (.head _)))
theorem mem4 : A ∈ B :: C :: D :: F :: A :: H := .tail _ (.tail _ (.tail _ (.tail _ (.head _))))
theorem mem5 : A ∈ B :: C :: D :: F :: G :: A :: H := .tail _ (.tail _ (.tail _ (.tail _ (.tail _ (.head _)))))
theorem rep0 : Rep A A' (A :: H) (A' :: H) := .head
theorem rep1 : Rep A A' (B :: A :: H) (B :: A' :: H) := .tail .head
theorem rep2 : Rep A A' (B :: C :: A :: H) (B :: C :: A' :: H) := .tail (.tail .head)
theorem rep3 : Rep A A' (B :: C :: D :: A :: H) (B :: C :: D :: A' :: H) := .tail (.tail (.tail .head))
theorem rep4 : Rep A A' (B :: C :: D :: F :: A :: H) (B :: C :: D :: F :: A' :: H) := .tail (.tail (.tail (.tail .head)))
theorem del0 : Del A (A :: H) H := .head
theorem del1 : Del A (B :: A :: H) (B :: H) := .tail .head
theorem del2 : Del A (B :: C :: A :: H) (B :: C :: H) := .tail (.tail .head)
theorem del3 : Del A (B :: C :: D :: A :: H) (B :: C :: D :: H) := .tail (.tail (.tail .head))
theorem del4 : Del A (B :: C :: D :: F :: A :: H) (B :: C :: D :: F :: H) := .tail (.tail (.tail (.tail .head)))
end

section
variable {w0 w w' : World} {S : List Nat} {H H' : List HA} {A A' : HA}

theorem Rep.mem (r : Rep A A' H H') : A ∈ H := by induction r with | head => simp | tail _ ih => simp [ih]
theorem Rep.mem' (r : Rep A A' H H') : A' ∈ H' := by induction r with | head => simp | tail _ ih => simp [ih]
theorem Rep.old (r : Rep A A' H H') {B : HA} (h : B ∈ H') : B = A' ∨ B ∈ H := by
  induction r with
  | head => rcases List.mem_cons.1 h with h | h <;> simp [h]
  | tail _ ih => rcases List.mem_cons.1 h with h | h; · simp [h]
                 · rcases ih h with h | h <;> simp [h]
theorem Del.perm (d : Del A H H') : H.Perm (A :: H') := by
  induction d with
  | head => exact .refl _
  | tail _ ih => exact (List.Perm.cons _ ih).trans (List.Perm.swap _ _ _)

abbrev Apart (A B : HA) : Prop := ∀ k, A.foot = some k → B.foot ≠ some k
theorem Apart.symm {A B : HA} (h : Apart A B) : Apart B A := fun k hb ha => h k ha hb

theorem Hp.nil (w0 : World) (S : List Nat) : Hp w0 S [] w0 := ⟨.refl _ _, by simp, by simp, .nil⟩
theorem Hp.get (h : Hp w0 S H w) (hm : A ∈ H) : A.ok w := h.ok A hm
theorem Hp.perm (h : Hp w0 S H w) (p : H.Perm H') : Hp w0 S H' w :=
  ⟨h.ch, fun A hA => h.ok A (p.mem_iff.2 hA), fun A hA => h.own A (p.mem_iff.2 hA), (p.pairwise_iff (fun h => Apart.symm h)).1 h.apart⟩
theorem Hp.pop (h : Hp w0 S (A :: H) w) : Hp w0 S H w :=
  ⟨h.ch, fun B hB => h.ok B (by simp [hB]), fun B hB => h.own B (by simp [hB]), (List.pairwise_cons.1 h.apart).2⟩
theorem Hp.del (h : Hp w0 S H w) (d : Del A H H') : Hp w0 S H' w := (h.perm d.perm).pop
theorem Hp.cons (h : Hp w0 S H w) (hA : A.ok w) (hown : ∀ k, A.foot = some k → w0.heap.size ≤ k ∨ k ∈ S) (hap : ∀ B ∈ H, Apart A B) : Hp w0 S (A :: H) w :=
  ⟨h.ch, fun B hB => (List.mem_cons.1 hB).elim (fun e => e ▸ hA) (h.ok B), fun B hB => (List.mem_cons.1 hB).elim (fun e => e ▸ hown) (h.own B), List.pairwise_cons.2 ⟨hap, h.apart⟩⟩
theorem Hp.part (h : Hp w0 S H w) {F : List HA} (p : Part F H) : Hp w0 S F w := by
  induction p with
  | nil => exact ⟨h.ch, by simp, by simp, .nil⟩
  | @cons A F H H' d p ih =>
    have h1 := h.perm d.perm
    have hF := ih h1.pop
    refine hF.cons (h1.ok A (by simp)) (h1.own A (by simp)) ?_
    have hap := (List.pairwise_cons.1 h1.apart).1
    clear ih hF h1 h d
    intro B hB
    have : ∀ {F H' : List HA}, Part F H' → ∀ B ∈ F, B ∈ H' := by
      intro F H' p
      induction p with
      | nil => intro B hB; cases hB
      | cons d _ ih =>
        intro B hB
        rcases List.mem_cons.1 hB with rfl | hB
        · exact d.perm.mem_iff.2 (by simp)
        · exact d.perm.mem_iff.2 (by simp [ih B hB])
    exact hap B (this p B hB)
/-- A step that writes the blocks of T alone, none of which H speaks of. -/
theorem Hp.frame {T : List Nat} (h : Hp w0 S H w) (c : Ch T w w') (hT : ∀ k ∈ T, k ∈ S ∨ w0.heap.size ≤ k) (hH : ∀ A ∈ H, ∀ k, A.foot = some k → k ∉ T) : Hp w0 S H w' :=
  ⟨h.ch.trans c hT, fun A hA => HA.kept (h.ok A hA) (fun k hk => c.block k (HA.lt (h.ok A hA) hk) (hH A hA k hk)), h.own, h.apart⟩
/-- A step that writes no block. -/
theorem Hp.pure (h : Hp w0 S H w) (c : Ch [] w w') : Hp w0 S H w' := h.frame c (by simp) (by simp)
/-- A step that writes no block, and makes one. -/
theorem Hp.new (h : Hp w0 S H w) (c : Ch [] w w') (hA : A.ok w') (hn : ∀ k, A.foot = some k → w.heap.size ≤ k) : Hp w0 S (A :: H) w' := by
  refine (h.pure c).cons hA (fun k hk => .inl (Nat.le_trans h.ch.size (hn k hk))) ?_
  intro B hB k hk hb
  have := HA.lt (h.ok B hB) hb
  have := hn k hk
  omega
/-- A step that writes the block of one A alone. -/
theorem Hp.upd {T : List Nat} (h : Hp w0 S H w) (r : Rep A A' H H') (c : Ch T w w') (hT : ∀ k ∈ T, A.foot = some k) (hA : A'.ok w')
    (hf : ∀ k, A'.foot = some k → A.foot = some k ∨ w.heap.size ≤ k) : Hp w0 S H' w' := by
  induction r with
  | @head H =>
    have hap := (List.pairwise_cons.1 h.apart).1
    have hr : Hp w0 S H w' := h.pop.frame c (fun k hk => (h.own A (by simp) k (hT k hk)).symm) (fun B hB k hk hkT => hap B hB k (hT k hkT) hk)
    refine hr.cons hA ?_ ?_
    · intro k hk
      rcases hf k hk with h1 | h1
      · exact h.own A (by simp) k h1
      · exact .inl (Nat.le_trans h.ch.size h1)
    · intro B hB k hk hb
      rcases hf k hk with h1 | h1
      · exact hap B hB k h1 hb
      · have := HA.lt (h.ok B (by simp [hB])) hb
        omega
  | @tail B H H' r ih =>
    have hap := (List.pairwise_cons.1 h.apart).1
    have h1 := ih h.pop
    have hBA : Apart B A := hap A r.mem
    refine h1.cons (HA.kept (h.ok B (by simp)) (fun k hk => c.block k (HA.lt (h.ok B (by simp)) hk) (fun hkT => hBA k hk (hT k hkT)))) (h.own B (by simp)) ?_
    intro D hD k hk hd
    rcases r.old hD with rfl | hD
    · rcases hf k hd with h2 | h2
      · exact hBA k hk h2
      · have := HA.lt (h.ok B (by simp)) hk
        omega
    · exact hap D hD k hk hd
theorem Hp.cell (h : Hp w0 S H w) {a : Addr} {v : Value} (hc : w0.cell? a = some v) (hS : a.block ∉ S) : w.cell? a = some v := by
  rw [h.ch.cell (World.block_lt_of_cell? w0 a hc) hS]; exact hc
theorem Hp.cast (h : Hp w0 S H w) (e : H = H') : Hp w0 S H' w := e ▸ h
end

/-- Parts of a list. -/
inductive TakeAt {α : Type} : Nat → Nat → List α → List α → Prop where
  | done {vs : List α} : TakeAt 0 0 vs []
  | take {n : Nat} {v : α} {vs cs : List α} : TakeAt 0 n vs cs → TakeAt 0 (n + 1) (v :: vs) (v :: cs)
  | skip {o n : Nat} {v : α} {vs cs : List α} : TakeAt o n vs cs → TakeAt (o + 1) n (v :: vs) cs
theorem TakeAt.eq {α : Type} {o n : Nat} {vs cs : List α} (h : TakeAt o n vs cs) : (vs.drop o).take n = cs ∧ o + n ≤ vs.length := by
  induction h with
  | done => simp
  | take _ ih => refine ⟨by simpa using ih.1, by have := ih.2; simp; omega⟩
  | skip _ ih => refine ⟨by simpa using ih.1, by have := ih.2; simp; omega⟩
/-- A part of a list in the place of another. -/
inductive PutAt {α : Type} : Nat → List α → List α → List α → Prop where
  | done {vs : List α} : PutAt 0 [] vs vs
  | put {u v : α} {us vs cs : List α} : PutAt 0 us vs cs → PutAt 0 (u :: us) (v :: vs) (u :: cs)
  | skip {o : Nat} {v : α} {us vs cs : List α} : PutAt o us vs cs → PutAt (o + 1) us (v :: vs) (v :: cs)
theorem PutAt.eq {α : Type} {o : Nat} {us vs cs : List α} (h : PutAt o us vs cs) : cs = vs.take o ++ us ++ vs.drop (o + us.length) ∧ o + us.length ≤ vs.length := by
  induction h with
  | done => simp
  | put _ ih => refine ⟨by simp at ih; simp [ih.1], by have := ih.2; simp at this ⊢; omega⟩
  | @skip o v us vs cs _ ih =>
    refine ⟨?_, by have := ih.2; simp; omega⟩
    rw [show o + 1 + us.length = (o + us.length) + 1 by omega]
    simp [ih.1]
end Go.Proofs.Ytghomncegjamfaa
