/- The calculus, part nineteen: own blocks read in a region that draws its order. -/
import Derived.Test.YtghomncegjamfaaGreatJu
namespace Go.Proofs.YtghomncegjamfaaGreat
open Go.RowKit
section
variable {P : Program} {n : Nat} {E : Env} {w1 : World} {d : Option Tmp} {T ty : Nat} {pos : String} {af : Array Edge} {g : Option (Nat × Bool)} {x : Operand}
theorem y_loadAgg_hp {b off size : Nat} {vs us : List Value} [hC : TAgg P T size] (hx : ev E x = some (.pointer (some ⟨b, off, none⟩))) (hm : HA.ok w1 (.cells b vs)) (hv : TakeAt off size vs us) : Yields P n E (Hp w1 [] []) ⟨d, .load T x, ty, pos, af, g⟩ (.agg us.toArray) :=
  y_loadAgg_of hx (by rw [← hv.eq.1]; have := hv.eq.2; simp; omega) fun w hw j u hj => by
    rw [(HA.ch hm hw.ch : Cells w b vs).cell, ← hj, ← hv.eq.1, List.getElem?_take]
    have : j < us.length := (List.getElem?_eq_some_iff.1 hj).1
    have h2 : us.length = size := by rw [← hv.eq.1]; have := hv.eq.2; simp; omega
    rw [if_pos (by omega), List.getElem?_drop]
end
section
variable {A0 A1 A2 A3 A4 A5 A6 A7 A8 A9 A10 A11 A12 : HA} {X Y : HA} {H : List HA}
theorem repx5 : Rep X Y (A0 :: A1 :: A2 :: A3 :: A4 :: X :: H) (A0 :: A1 :: A2 :: A3 :: A4 :: Y :: H) := .tail (.tail (.tail (.tail (.tail (.head)))))
theorem del5 : Del X (A0 :: A1 :: A2 :: A3 :: A4 :: X :: H) (A0 :: A1 :: A2 :: A3 :: A4 :: H) := .tail (.tail (.tail (.tail (.tail (.head)))))
theorem mem6 : X ∈ A0 :: A1 :: A2 :: A3 :: A4 :: A5 :: X :: H := .tail _ (.tail _ (.tail _ (.tail _ (.tail _ (.tail _ (.head _))))))
theorem rep6 : Rep X Y (A0 :: A1 :: A2 :: A3 :: A4 :: A5 :: X :: H) (A0 :: A1 :: A2 :: A3 :: A4 :: A5 :: Y :: H) := .tail (.tail (.tail (.tail (.tail (.tail (.head))))))
theorem del6 : Del X (A0 :: A1 :: A2 :: A3 :: A4 :: A5 :: X :: H) (A0 :: A1 :: A2 :: A3 :: A4 :: A5 :: H) := .tail (.tail (.tail (.tail (.tail (.tail (.head))))))
theorem mem7 : X ∈ A0 :: A1 :: A2 :: A3 :: A4 :: A5 :: A6 :: X :: H := .tail _ (.tail _ (.tail _ (.tail _ (.tail _ (.tail _ (.tail _ (.head _)))))))
theorem rep7 : Rep X Y (A0 :: A1 :: A2 :: A3 :: A4 :: A5 :: A6 :: X :: H) (A0 :: A1 :: A2 :: A3 :: A4 :: A5 :: A6 :: Y :: H) := .tail (.tail (.tail (.tail (.tail (.tail (.tail (.head)))))))
theorem del7 : Del X (A0 :: A1 :: A2 :: A3 :: A4 :: A5 :: A6 :: X :: H) (A0 :: A1 :: A2 :: A3 :: A4 :: A5 :: A6 :: H) := .tail (.tail (.tail (.tail (.tail (.tail (.tail (.head)))))))
theorem mem8 : X ∈ A0 :: A1 :: A2 :: A3 :: A4 :: A5 :: A6 :: A7 :: X :: H := .tail _ (.tail _ (.tail _ (.tail _ (.tail _ (.tail _ (.tail _ (.tail _ (.head _))))))))
theorem rep8 : Rep X Y (A0 :: A1 :: A2 :: A3 :: A4 :: A5 :: A6 :: A7 :: X :: H) (A0 :: A1 :: A2 :: A3 :: A4 :: A5 :: A6 :: A7 :: Y :: H) := .tail (.tail (.tail (.tail (.tail (.tail (.tail (.tail (.head))))))))
theorem del8 : Del X (A0 :: A1 :: A2 :: A3 :: A4 :: A5 :: A6 :: A7 :: X :: H) (A0 :: A1 :: A2 :: A3 :: A4 :: A5 :: A6 :: A7 :: H) := .tail (.tail (.tail (.tail (.tail (.tail (.tail (.tail (.head))))))))
theorem mem9 : X ∈ A0 :: A1 :: A2 :: A3 :: A4 :: A5 :: A6 :: A7 :: A8 :: X :: H := .tail _ (.tail _ (.tail _ (.tail _ (.tail _ (.tail _ (.tail _ (.tail _ (.tail _ (.head _)))))))))
theorem rep9 : Rep X Y (A0 :: A1 :: A2 :: A3 :: A4 :: A5 :: A6 :: A7 :: A8 :: X :: H) (A0 :: A1 :: A2 :: A3 :: A4 :: A5 :: A6 :: A7 :: A8 :: Y :: H) := .tail (.tail (.tail (.tail (.tail (.tail (.tail (.tail (.tail (.head)))))))))
theorem del9 : Del X (A0 :: A1 :: A2 :: A3 :: A4 :: A5 :: A6 :: A7 :: A8 :: X :: H) (A0 :: A1 :: A2 :: A3 :: A4 :: A5 :: A6 :: A7 :: A8 :: H) := .tail (.tail (.tail (.tail (.tail (.tail (.tail (.tail (.tail (.head)))))))))
theorem mem10 : X ∈ A0 :: A1 :: A2 :: A3 :: A4 :: A5 :: A6 :: A7 :: A8 :: A9 :: X :: H := .tail _ (.tail _ (.tail _ (.tail _ (.tail _ (.tail _ (.tail _ (.tail _ (.tail _ (.tail _ (.head _))))))))))
theorem rep10 : Rep X Y (A0 :: A1 :: A2 :: A3 :: A4 :: A5 :: A6 :: A7 :: A8 :: A9 :: X :: H) (A0 :: A1 :: A2 :: A3 :: A4 :: A5 :: A6 :: A7 :: A8 :: A9 :: Y :: H) := .tail (.tail (.tail (.tail (.tail (.tail (.tail (.tail (.tail (.tail (.head))))))))))
theorem del10 : Del X (A0 :: A1 :: A2 :: A3 :: A4 :: A5 :: A6 :: A7 :: A8 :: A9 :: X :: H) (A0 :: A1 :: A2 :: A3 :: A4 :: A5 :: A6 :: A7 :: A8 :: A9 :: H) := .tail (.tail (.tail (.tail (.tail (.tail (.tail (.tail (.tail (.tail (.head))))))))))
theorem mem11 : X ∈ A0 :: A1 :: A2 :: A3 :: A4 :: A5 :: A6 :: A7 :: A8 :: A9 :: A10 :: X :: H := .tail _ (.tail _ (.tail _ (.tail _ (.tail _ (.tail _ (.tail _ (.tail _ (.tail _ (.tail _ (.tail _ (.head _)))))))))))
theorem rep11 : Rep X Y (A0 :: A1 :: A2 :: A3 :: A4 :: A5 :: A6 :: A7 :: A8 :: A9 :: A10 :: X :: H) (A0 :: A1 :: A2 :: A3 :: A4 :: A5 :: A6 :: A7 :: A8 :: A9 :: A10 :: Y :: H) := .tail (.tail (.tail (.tail (.tail (.tail (.tail (.tail (.tail (.tail (.tail (.head)))))))))))
theorem del11 : Del X (A0 :: A1 :: A2 :: A3 :: A4 :: A5 :: A6 :: A7 :: A8 :: A9 :: A10 :: X :: H) (A0 :: A1 :: A2 :: A3 :: A4 :: A5 :: A6 :: A7 :: A8 :: A9 :: A10 :: H) := .tail (.tail (.tail (.tail (.tail (.tail (.tail (.tail (.tail (.tail (.tail (.head)))))))))))
theorem mem12 : X ∈ A0 :: A1 :: A2 :: A3 :: A4 :: A5 :: A6 :: A7 :: A8 :: A9 :: A10 :: A11 :: X :: H := .tail _ (.tail _ (.tail _ (.tail _ (.tail _ (.tail _ (.tail _ (.tail _ (.tail _ (.tail _ (.tail _ (.tail _ (.head _))))))))))))
theorem rep12 : Rep X Y (A0 :: A1 :: A2 :: A3 :: A4 :: A5 :: A6 :: A7 :: A8 :: A9 :: A10 :: A11 :: X :: H) (A0 :: A1 :: A2 :: A3 :: A4 :: A5 :: A6 :: A7 :: A8 :: A9 :: A10 :: A11 :: Y :: H) := .tail (.tail (.tail (.tail (.tail (.tail (.tail (.tail (.tail (.tail (.tail (.tail (.head))))))))))))
theorem del12 : Del X (A0 :: A1 :: A2 :: A3 :: A4 :: A5 :: A6 :: A7 :: A8 :: A9 :: A10 :: A11 :: X :: H) (A0 :: A1 :: A2 :: A3 :: A4 :: A5 :: A6 :: A7 :: A8 :: A9 :: A10 :: A11 :: H) := .tail (.tail (.tail (.tail (.tail (.tail (.tail (.tail (.tail (.tail (.tail (.tail (.head))))))))))))
end
/-! ### A call that turns several own blocks at once -/
def feetL (As : List HA) : List Nat := As.filterMap HA.foot
theorem mem_feetL {As : List HA} {k : Nat} : k ∈ feetL As ↔ ∃ A ∈ As, A.foot = some k := by
  unfold feetL; rw [List.mem_filterMap]
/-- 'As' are taken out of 'H', 'F' is left. -/
inductive Sp : List HA → List HA → List HA → Prop where
  | nil {H : List HA} : Sp [] H H
  | cons {A : HA} {As H H1 F : List HA} : Del A H H1 → Sp As H1 F → Sp (A :: As) H F
theorem Sp.perm {As H F : List HA} (s : Sp As H F) : H.Perm (As ++ F) := by
  induction s with
  | nil => exact .refl _
  | cons d _ ih => exact d.perm.trans (.cons _ ih)
theorem Hp.at {w0 w : World} {S : List Nat} {As H F : List HA} (hw : Hp w0 S H w) (s : Sp As H F) : Hp w (feetL As) As w := by
  have h := hw.perm s.perm
  exact ⟨.refl _ _, fun A hA => h.ok A (List.mem_append_left _ hA), fun A hA k hk => .inr (mem_feetL.2 ⟨A, hA, hk⟩), (List.pairwise_append.1 h.apart).1⟩
theorem Hp.turned {w0 w w' : World} {S : List Nat} {As Bs H F : List HA} (hw : Hp w0 S H w) (s : Sp As H F) (h : Hp w (feetL As) Bs w') : Hp w0 S (Bs ++ F) w' := by
  have hp := hw.perm s.perm
  have hap := List.pairwise_append.1 hp.apart
  have hS : ∀ k ∈ feetL As, k ∈ S ∨ w0.heap.size ≤ k := fun k hk => by
    obtain ⟨A, hA, hf⟩ := mem_feetL.1 hk
    exact (hp.own A (List.mem_append_left _ hA) k hf).symm
  have hF : ∀ B ∈ F, ∀ k, B.foot = some k → k ∉ feetL As := fun B hB k hk hm => by
    obtain ⟨A, hA, hf⟩ := mem_feetL.1 hm
    exact hap.2.2 A hA B hB k hf hk
  refine ⟨hp.ch.trans h.ch hS, fun A hA => ?_, fun A hA k hk => ?_, List.pairwise_append.2 ⟨h.apart, hap.2.1, fun A hA B hB k hk hb => ?_⟩⟩
  · rcases List.mem_append.1 hA with hA | hA
    · exact h.ok A hA
    · have hok := hp.ok A (List.mem_append_right _ hA)
      exact HA.kept hok fun k hk => h.ch.block k (HA.lt hok hk) (hF A hA k hk)
  · rcases List.mem_append.1 hA with hA | hA
    · rcases h.own A hA k hk with h1 | h1
      · exact .inl (Nat.le_trans hp.ch.size h1)
      · exact (hS k h1).symm
    · exact hp.own A (List.mem_append_right _ hA) k hk
  · rcases h.own A hA k hk with h1 | h1
    · have := HA.lt (hp.ok B (List.mem_append_right _ hB)) hb; omega
    · exact hF B hB k hb h1
section
variable {P : Program} {n : Nat} {E : Env} {Q : Exit → Act → World → Prop} {ops : Array Oper} {rest : List Oper} {o : Oper} {d : Nat} {f : Nat} {args : Array Value} {w0 : World} {S : List Nat} {H : List HA} {ι : Type} {v : ι → Value}
theorem jl_tcall {As F : List HA} {Bs : ι → List HA} (s : Sp As H F) (hd : o.dst = some d) (hn : d < n) (hg : want ops E o = some true) (hf : Goes P n E o f args)
    (hc : ∀ w, Hp w0 S H w → Calls P f args w fun e w' => ∃ b, e = .returned (v b) ∧ Hp w (feetL As) (Bs b) w') (k : ∀ b, JL P n Q (Hp w0 S (Bs b ++ F)) ops rest ((d, v b) :: E)) : JL P n Q (Hp w0 S H) ops (o :: rest) E :=
  jl_call (v := v) (W' := fun b => Hp w0 S (Bs b ++ F)) hd hn hg hf (fun w hw => (hc w hw).mono fun _ _ ⟨b, he, h⟩ => ⟨b, he, hw.turned s h⟩) k
end
/-! ### Ways that meet again, in a state of several parts -/
section
variable {P : Program} {n : Nat} {Q : Exit → Act → World → Prop} {E : Env}
theorem jc_joinI {ι : Type} {W : World → Prop} {x y : Code} (E' : ι → Env) (W' : ι → World → Prop) (hy : ∀ j, JC P n Q (W' j) y (E' j)) (hx : JC P n (Exit.then (fun a w => ∃ j, Holds n (E' j) a ∧ W' j w) Q) W x E) : JC P n Q W (.seq x y) E := fun a w ha hw => wp_seq (wp_mono (hx a w ha hw) fun e a' w' hq => by
  cases e with
  | normal => obtain ⟨j, h1, h2⟩ := hq; exact hy j a' w' h1 h2
  | exit id => exact hq
  | goto l => exact hq
  | ret => exact hq
  | panic ch => exact hq
  | outgrown => exact hq)
theorem jq_joinI {ι : Type} {W : World → Prop} {W' : ι → World → Prop} {E' : ι → Env} (j : ι) (hk : Knows E (E' j)) (hw : ∀ w, W w → W' j w) : JQ n (Exit.then (fun a w => ∃ j, Holds n (E' j) a ∧ W' j w) Q) W .normal E := fun _ w ha hw' => ⟨j, ha.weaken hk, hw w hw'⟩
theorem jc_joinI1 {α0 : Type} {W : World → Prop} {x y : Code} (E' : α0 → Env) (W' : α0 → World → Prop) (hy : ∀ x0, JC P n Q (W' x0) y (E' x0)) (hx : JC P n (Exit.then (fun a w => ∃ z0, Holds n (E' z0) a ∧ W' z0 w) Q) W x E) : JC P n Q W (.seq x y) E :=
  jc_joinI (ι := α0) (fun j => E' j) (fun j => W' j) (fun j => hy j) fun a w ha hw => wp_mono (hx a w ha hw) fun e a' w' hq => by
    cases e with
    | normal => obtain ⟨z0, h⟩ := hq; exact ⟨z0, h⟩
    | exit id => exact hq
    | goto l => exact hq
    | ret => exact hq
    | panic ch => exact hq
    | outgrown => exact hq
theorem jq_joinI1 {α0 : Type} {W : World → Prop} {W' : α0 → World → Prop} {E' : α0 → Env} (x0 : α0) (hk : Knows E (E' x0)) (hw : ∀ w, W w → W' x0 w) : JQ n (Exit.then (fun a w => ∃ z0, Holds n (E' z0) a ∧ W' z0 w) Q) W .normal E := fun _ w ha hw' => ⟨x0, ha.weaken hk, hw w hw'⟩
theorem jc_joinI2 {α0 α1 : Type} {W : World → Prop} {x y : Code} (E' : α0 → α1 → Env) (W' : α0 → α1 → World → Prop) (hy : ∀ x0 x1, JC P n Q (W' x0 x1) y (E' x0 x1)) (hx : JC P n (Exit.then (fun a w => ∃ z0 z1, Holds n (E' z0 z1) a ∧ W' z0 z1 w) Q) W x E) : JC P n Q W (.seq x y) E :=
  jc_joinI (ι := α0 × α1) (fun j => E' j.1 j.2) (fun j => W' j.1 j.2) (fun j => hy j.1 j.2) fun a w ha hw => wp_mono (hx a w ha hw) fun e a' w' hq => by
    cases e with
    | normal => obtain ⟨z0, z1, h⟩ := hq; exact ⟨(z0, z1), h⟩
    | exit id => exact hq
    | goto l => exact hq
    | ret => exact hq
    | panic ch => exact hq
    | outgrown => exact hq
theorem jq_joinI2 {α0 α1 : Type} {W : World → Prop} {W' : α0 → α1 → World → Prop} {E' : α0 → α1 → Env} (x0 : α0) (x1 : α1) (hk : Knows E (E' x0 x1)) (hw : ∀ w, W w → W' x0 x1 w) : JQ n (Exit.then (fun a w => ∃ z0 z1, Holds n (E' z0 z1) a ∧ W' z0 z1 w) Q) W .normal E := fun _ w ha hw' => ⟨x0, x1, ha.weaken hk, hw w hw'⟩
theorem jc_joinI3 {α0 α1 α2 : Type} {W : World → Prop} {x y : Code} (E' : α0 → α1 → α2 → Env) (W' : α0 → α1 → α2 → World → Prop) (hy : ∀ x0 x1 x2, JC P n Q (W' x0 x1 x2) y (E' x0 x1 x2)) (hx : JC P n (Exit.then (fun a w => ∃ z0 z1 z2, Holds n (E' z0 z1 z2) a ∧ W' z0 z1 z2 w) Q) W x E) : JC P n Q W (.seq x y) E :=
  jc_joinI (ι := α0 × α1 × α2) (fun j => E' j.1 j.2.1 j.2.2) (fun j => W' j.1 j.2.1 j.2.2) (fun j => hy j.1 j.2.1 j.2.2) fun a w ha hw => wp_mono (hx a w ha hw) fun e a' w' hq => by
    cases e with
    | normal => obtain ⟨z0, z1, z2, h⟩ := hq; exact ⟨(z0, z1, z2), h⟩
    | exit id => exact hq
    | goto l => exact hq
    | ret => exact hq
    | panic ch => exact hq
    | outgrown => exact hq
theorem jq_joinI3 {α0 α1 α2 : Type} {W : World → Prop} {W' : α0 → α1 → α2 → World → Prop} {E' : α0 → α1 → α2 → Env} (x0 : α0) (x1 : α1) (x2 : α2) (hk : Knows E (E' x0 x1 x2)) (hw : ∀ w, W w → W' x0 x1 x2 w) : JQ n (Exit.then (fun a w => ∃ z0 z1 z2, Holds n (E' z0 z1 z2) a ∧ W' z0 z1 z2 w) Q) W .normal E := fun _ w ha hw' => ⟨x0, x1, x2, ha.weaken hk, hw w hw'⟩
theorem jc_joinI4 {α0 α1 α2 α3 : Type} {W : World → Prop} {x y : Code} (E' : α0 → α1 → α2 → α3 → Env) (W' : α0 → α1 → α2 → α3 → World → Prop) (hy : ∀ x0 x1 x2 x3, JC P n Q (W' x0 x1 x2 x3) y (E' x0 x1 x2 x3)) (hx : JC P n (Exit.then (fun a w => ∃ z0 z1 z2 z3, Holds n (E' z0 z1 z2 z3) a ∧ W' z0 z1 z2 z3 w) Q) W x E) : JC P n Q W (.seq x y) E :=
  jc_joinI (ι := α0 × α1 × α2 × α3) (fun j => E' j.1 j.2.1 j.2.2.1 j.2.2.2) (fun j => W' j.1 j.2.1 j.2.2.1 j.2.2.2) (fun j => hy j.1 j.2.1 j.2.2.1 j.2.2.2) fun a w ha hw => wp_mono (hx a w ha hw) fun e a' w' hq => by
    cases e with
    | normal => obtain ⟨z0, z1, z2, z3, h⟩ := hq; exact ⟨(z0, z1, z2, z3), h⟩
    | exit id => exact hq
    | goto l => exact hq
    | ret => exact hq
    | panic ch => exact hq
    | outgrown => exact hq
theorem jq_joinI4 {α0 α1 α2 α3 : Type} {W : World → Prop} {W' : α0 → α1 → α2 → α3 → World → Prop} {E' : α0 → α1 → α2 → α3 → Env} (x0 : α0) (x1 : α1) (x2 : α2) (x3 : α3) (hk : Knows E (E' x0 x1 x2 x3)) (hw : ∀ w, W w → W' x0 x1 x2 x3 w) : JQ n (Exit.then (fun a w => ∃ z0 z1 z2 z3, Holds n (E' z0 z1 z2 z3) a ∧ W' z0 z1 z2 z3 w) Q) W .normal E := fun _ w ha hw' => ⟨x0, x1, x2, x3, ha.weaken hk, hw w hw'⟩
theorem jc_joinI5 {α0 α1 α2 α3 α4 : Type} {W : World → Prop} {x y : Code} (E' : α0 → α1 → α2 → α3 → α4 → Env) (W' : α0 → α1 → α2 → α3 → α4 → World → Prop) (hy : ∀ x0 x1 x2 x3 x4, JC P n Q (W' x0 x1 x2 x3 x4) y (E' x0 x1 x2 x3 x4)) (hx : JC P n (Exit.then (fun a w => ∃ z0 z1 z2 z3 z4, Holds n (E' z0 z1 z2 z3 z4) a ∧ W' z0 z1 z2 z3 z4 w) Q) W x E) : JC P n Q W (.seq x y) E :=
  jc_joinI (ι := α0 × α1 × α2 × α3 × α4) (fun j => E' j.1 j.2.1 j.2.2.1 j.2.2.2.1 j.2.2.2.2) (fun j => W' j.1 j.2.1 j.2.2.1 j.2.2.2.1 j.2.2.2.2) (fun j => hy j.1 j.2.1 j.2.2.1 j.2.2.2.1 j.2.2.2.2) fun a w ha hw => wp_mono (hx a w ha hw) fun e a' w' hq => by
    cases e with
    | normal => obtain ⟨z0, z1, z2, z3, z4, h⟩ := hq; exact ⟨(z0, z1, z2, z3, z4), h⟩
    | exit id => exact hq
    | goto l => exact hq
    | ret => exact hq
    | panic ch => exact hq
    | outgrown => exact hq
theorem jq_joinI5 {α0 α1 α2 α3 α4 : Type} {W : World → Prop} {W' : α0 → α1 → α2 → α3 → α4 → World → Prop} {E' : α0 → α1 → α2 → α3 → α4 → Env} (x0 : α0) (x1 : α1) (x2 : α2) (x3 : α3) (x4 : α4) (hk : Knows E (E' x0 x1 x2 x3 x4)) (hw : ∀ w, W w → W' x0 x1 x2 x3 x4 w) : JQ n (Exit.then (fun a w => ∃ z0 z1 z2 z3 z4, Holds n (E' z0 z1 z2 z3 z4) a ∧ W' z0 z1 z2 z3 z4 w) Q) W .normal E := fun _ w ha hw' => ⟨x0, x1, x2, x3, x4, ha.weaken hk, hw w hw'⟩
end
/-! ### Loops with a state of many parts -/
section
variable {P : Program} {n : Nat} {Q : Exit → Act → World → Prop} {E : Env} {W : World → Prop}
theorem jc_loop5 {α0 α1 α2 α3 α4 : Type} {c : Code} (I : α0 → α1 → α2 → α3 → α4 → Env) (V : α0 → α1 → α2 → α3 → α4 → World → Prop) (μ : α0 → α1 → α2 → α3 → α4 → Nat) (y0 : α0) (y1 : α1) (y2 : α2) (y3 : α3) (y4 : α4) (h₀ : Knows E (I y0 y1 y2 y3 y4)) (h₁ : ∀ w, W w → V y0 y1 y2 y3 y4 w)
    (round : ∀ (x0 : α0) (x1 : α1) (x2 : α2) (x3 : α3) (x4 : α4), JC P n (Exit.then (fun a w => ∃ z0 z1 z2 z3 z4, μ z0 z1 z2 z3 z4 < μ x0 x1 x2 x3 x4 ∧ Holds n (I z0 z1 z2 z3 z4) a ∧ V z0 z1 z2 z3 z4 w) Q) (V x0 x1 x2 x3 x4) c (I x0 x1 x2 x3 x4)) : JC P n Q W (.loop c) E :=
  jc_loop (ι := α0 × α1 × α2 × α3 × α4) (fun j => I j.1 j.2.1 j.2.2.1 j.2.2.2.1 j.2.2.2.2) (fun j => V j.1 j.2.1 j.2.2.1 j.2.2.2.1 j.2.2.2.2) (fun j => μ j.1 j.2.1 j.2.2.1 j.2.2.2.1 j.2.2.2.2) (y0, y1, y2, y3, y4) h₀ h₁ fun j a w ha hw => wp_mono (round j.1 j.2.1 j.2.2.1 j.2.2.2.1 j.2.2.2.2 a w ha hw) fun e a' w' hq => by
    cases e with
    | normal => obtain ⟨z0, z1, z2, z3, z4, h⟩ := hq; exact ⟨(z0, z1, z2, z3, z4), h⟩
    | exit id => exact hq
    | goto l => exact hq
    | ret => exact hq
    | panic ch => exact hq
    | outgrown => exact hq
theorem jq_round5 {α0 α1 α2 α3 α4 : Type} {I : α0 → α1 → α2 → α3 → α4 → Env} {V : α0 → α1 → α2 → α3 → α4 → World → Prop} {μ : α0 → α1 → α2 → α3 → α4 → Nat} {x0 : α0} {x1 : α1} {x2 : α2} {x3 : α3} {x4 : α4} (y0 : α0) (y1 : α1) (y2 : α2) (y3 : α3) (y4 : α4) (hlt : μ y0 y1 y2 y3 y4 < μ x0 x1 x2 x3 x4) (hk : Knows E (I y0 y1 y2 y3 y4)) (hw : ∀ w, W w → V y0 y1 y2 y3 y4 w) :
    JQ n (Exit.then (fun a w => ∃ z0 z1 z2 z3 z4, μ z0 z1 z2 z3 z4 < μ x0 x1 x2 x3 x4 ∧ Holds n (I z0 z1 z2 z3 z4) a ∧ V z0 z1 z2 z3 z4 w) Q) W .normal E := fun _ w ha hw' => ⟨y0, y1, y2, y3, y4, hlt, ha.weaken hk, hw w hw'⟩
theorem jc_loop6 {α0 α1 α2 α3 α4 α5 : Type} {c : Code} (I : α0 → α1 → α2 → α3 → α4 → α5 → Env) (V : α0 → α1 → α2 → α3 → α4 → α5 → World → Prop) (μ : α0 → α1 → α2 → α3 → α4 → α5 → Nat) (y0 : α0) (y1 : α1) (y2 : α2) (y3 : α3) (y4 : α4) (y5 : α5) (h₀ : Knows E (I y0 y1 y2 y3 y4 y5)) (h₁ : ∀ w, W w → V y0 y1 y2 y3 y4 y5 w)
    (round : ∀ (x0 : α0) (x1 : α1) (x2 : α2) (x3 : α3) (x4 : α4) (x5 : α5), JC P n (Exit.then (fun a w => ∃ z0 z1 z2 z3 z4 z5, μ z0 z1 z2 z3 z4 z5 < μ x0 x1 x2 x3 x4 x5 ∧ Holds n (I z0 z1 z2 z3 z4 z5) a ∧ V z0 z1 z2 z3 z4 z5 w) Q) (V x0 x1 x2 x3 x4 x5) c (I x0 x1 x2 x3 x4 x5)) : JC P n Q W (.loop c) E :=
  jc_loop (ι := α0 × α1 × α2 × α3 × α4 × α5) (fun j => I j.1 j.2.1 j.2.2.1 j.2.2.2.1 j.2.2.2.2.1 j.2.2.2.2.2) (fun j => V j.1 j.2.1 j.2.2.1 j.2.2.2.1 j.2.2.2.2.1 j.2.2.2.2.2) (fun j => μ j.1 j.2.1 j.2.2.1 j.2.2.2.1 j.2.2.2.2.1 j.2.2.2.2.2) (y0, y1, y2, y3, y4, y5) h₀ h₁ fun j a w ha hw => wp_mono (round j.1 j.2.1 j.2.2.1 j.2.2.2.1 j.2.2.2.2.1 j.2.2.2.2.2 a w ha hw) fun e a' w' hq => by
    cases e with
    | normal => obtain ⟨z0, z1, z2, z3, z4, z5, h⟩ := hq; exact ⟨(z0, z1, z2, z3, z4, z5), h⟩
    | exit id => exact hq
    | goto l => exact hq
    | ret => exact hq
    | panic ch => exact hq
    | outgrown => exact hq
theorem jq_round6 {α0 α1 α2 α3 α4 α5 : Type} {I : α0 → α1 → α2 → α3 → α4 → α5 → Env} {V : α0 → α1 → α2 → α3 → α4 → α5 → World → Prop} {μ : α0 → α1 → α2 → α3 → α4 → α5 → Nat} {x0 : α0} {x1 : α1} {x2 : α2} {x3 : α3} {x4 : α4} {x5 : α5} (y0 : α0) (y1 : α1) (y2 : α2) (y3 : α3) (y4 : α4) (y5 : α5) (hlt : μ y0 y1 y2 y3 y4 y5 < μ x0 x1 x2 x3 x4 x5) (hk : Knows E (I y0 y1 y2 y3 y4 y5)) (hw : ∀ w, W w → V y0 y1 y2 y3 y4 y5 w) :
    JQ n (Exit.then (fun a w => ∃ z0 z1 z2 z3 z4 z5, μ z0 z1 z2 z3 z4 z5 < μ x0 x1 x2 x3 x4 x5 ∧ Holds n (I z0 z1 z2 z3 z4 z5) a ∧ V z0 z1 z2 z3 z4 z5 w) Q) W .normal E := fun _ w ha hw' => ⟨y0, y1, y2, y3, y4, y5, hlt, ha.weaken hk, hw w hw'⟩
end
end Go.Proofs.YtghomncegjamfaaGreat
