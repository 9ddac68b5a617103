/- The calculus, part ten: a range over a function: the rounds of the body, the code behind the loop (with a mark among the deferred calls), the call of yield. -/
import Derived.Test.YtghomncegjamfaaGreatJi
import Derived.RangeFuncIn
import Derived.RangeFuncLeaves
import Derived.RangeFuncRecord
import Derived.RangeFuncSeq
import Derived.RangeFuncCalls
namespace Go.Proofs.YtghomncegjamfaaGreat
open Go.RowKit

def fen : Option Nat → Fence
  | none => Fence.wide
  | some l => Fence.wide.inRound l
theorem fen_fn (l : Option Nat) (f : FuncId) : (fen l).fn f := by cases l <;> exact trivial
theorem fen_depth (l : Option Nat) : (fen l).depth = none := by cases l <;> rfl
theorem fen_calls {P : Program} {f : FuncId} {args : Array Value} {w : World} {R : Ending → World → Prop} (l : Option Nat) (n : Nat) (h : Calls P f args w R) : CallsIn (fen l) n P f args w R := by
  cases l with
  | none => exact callsIn_wide.2 h
  | some l => exact CallsIn.inRound l (callsIn_wide.2 h)
theorem fen_rows {P : Program} {row : String} {args : Array Value} {w : World} {R : Value → World → Prop} (l : Option Nat) (n : Nat) (h : Rows P row args w R) : RowsIn (fen l) n P row args w R := by
  intro c cs _
  obtain ⟨v, w', hR, hs⟩ := h c cs
  refine ⟨v, w', hR, ?_⟩
  cases l with
  | none => exact stepsIn_wide.2 hs
  | some l => rw [show Machine.fenced P (fen (some l)) = Machine.fenced P Fence.wide from rfl]; exact stepsIn_wide.2 hs

/-- Deferred calls behind those of the frame. -/
def addD (ds : List Deferred) (a : Act) : Act := { tmps := a.tmps, defers := a.defers ++ ds }
def dq (ds : List Deferred) (Q : Exit → Act → World → Prop) : Exit → Act → World → Prop := fun e a w => Q e (addD ds a) w
theorem addD_put (ds : List Deferred) (a : Act) (d : Option Tmp) (v : Value) : (addD ds a).put d v = addD ds (a.put d v) := by cases d <;> rfl
theorem addD_eval (ds : List Deferred) (a : Act) : (addD ds a).eval = a.eval := by funext x; cases x <;> rfl
def noDefer (o : Oper) : Bool := match o.op with
  | .defer _ => false
  | _ => true
theorem noDefer_spec {o : Oper} (h : noDefer o = true) : ∀ c, o.op ≠ .defer c := by
  intro c e
  unfold noDefer at h
  rw [e] at h
  cases h
theorem semAt_fen {l : Option Nat} {ρ : Operand → Value} {o : Oper} (h : noDefer o = true) : o.semAt (fen l).round ρ = execOp ρ o := Oper.semAt_eq _ _ _ (noDefer_spec h)

section
variable {P : Program} {ops : Array Oper} {Q : Exit → Act → World → Prop} {l : Option Nat} {ds : List Deferred}
theorem wpIn_of {o : Oper} {a : Act} {w : World} {K : Act → World → Prop} {K' : Act → World → Prop} (hd : noDefer o = true) (_hQ : ∀ a w, ¬ Q .outgrown a w) (hK : ∀ a w, K a w → K' (addD ds a) w)
    (h : o.wp P a w K (dq ds Q)) : o.wpIn (fen l) 0 P (addD ds a) w K' Q := by
  refine ⟨fun f _ => fen_fn l f, ?_⟩
  rw [semAt_fen hd, addD_eval]
  unfold Oper.wp at h
  generalize (execOp a.eval o).run P w = r at *
  have hcalls : ∀ {f args w'}, Calls P f args w' (fun
      | .returned v, w'' => K (a.put o.dst v) w''
      | .panicked chain, w'' => dq ds Q (.panic chain) a w''
      | .outgrown, _ => LetsOut (dq ds Q)) → CallsIn (fen l) (0 - 1) P f args w' (fun
      | .returned v, w'' => K' ((addD ds a).put o.dst v) w''
      | .panicked chain, w'' => Q (.panic chain) (addD ds a) w''
      | .outgrown, _ => LetsOut Q) := fun hc => (fen_calls l _ hc).mono fun e w'' he => by
    cases e with
    | returned v => show K' ((addD ds a).put o.dst v) w''; rw [addD_put]; exact hK _ _ he
    | panicked c => exact he
    | outgrown => obtain ⟨a', w3, h3⟩ := he; exact ⟨_, _, h3⟩
  cases r with
  | ok nx w' =>
    cases nx <;> simp only [Oper.upon, Oper.uponIn, addD_put] at h ⊢ <;>
      first
        | exact h.elim
        | exact hK _ _ h
        | (have h2 := hK _ _ h; rw [← addD_put] at h2; exact h2)
        | (refine ⟨fun hs => (by rw [fen_depth] at hs; cases hs), ?_⟩; have h2 := hcalls h; simp only [addD_put] at h2; exact h2)
        | (refine ⟨fun hs => (by rw [fen_depth] at hs; cases hs), ?_⟩; exact (fen_rows l _ h).mono fun v w'' hv => hK _ _ hv)
  | halt x w' => cases x <;> simp only [Oper.upon, Oper.uponIn] at h ⊢ <;> first | exact h.elim | exact h

theorem wp_otherQ {o : Oper} {a : Act} {w : World} {K : Act → World → Prop} {Q1 Q2 : Exit → Act → World → Prop} (h1 : ∀ c a w, Q1 (.panic c) a w → Q2 (.panic c) a w) (h2 : LetsOut Q1 → LetsOut Q2) (h : o.wp P a w K Q1) : o.wp P a w K Q2 := by
  unfold Oper.wp at *
  generalize (execOp a.eval o).run P w = r at *
  cases r with
  | ok nx w' =>
    cases nx <;> simp only [Oper.upon] at h ⊢ <;>
      first
        | exact h
        | (refine Calls.mono h fun e w'' he => ?_
           cases e with
           | returned v => exact he
           | panicked c => exact h1 _ _ _ he
           | outgrown => exact h2 he)
  | halt x w' => cases x <;> simp only [Oper.upon] at h ⊢ <;> first | exact h | exact h1 _ _ _ h

theorem wpListIn_of : ∀ (rest : List Oper) (a : Act) (w : World), rest.all noDefer = true → (∀ a w, ¬ Q .outgrown a w) → wpList P ops (dq ds Q) rest a w → wpListIn (fen l) 0 P ops Q rest (addD ds a) w
  | [], a, w, _, _, h => h
  | o :: rest, a, w, hd, hQ, h => by
    simp only [List.all_cons, Bool.and_eq_true] at hd
    unfold wpListIn
    unfold wpList at h
    have hw : Region.wanted o (yielded ops (addD ds a).tmps) = Region.wanted o (yielded ops a.tmps) := rfl
    rw [hw]
    split
    · rename_i hy
      rw [if_pos hy] at h
      rcases h with h | ⟨_, a', w', hq⟩
      · exact wpIn_of hd.1 hQ (fun a' w' => wpListIn_of rest a' w' hd.2 hQ) h
      · exact absurd hq (hQ _ _)
    · rename_i hy
      rw [if_neg hy] at h
      exact ⟨fun f _ => fen_fn l f, by rw [addD_put]; exact wpListIn_of rest _ _ hd.2 hQ h⟩
theorem wpOpsIn_of : ∀ (is : List Nat) (a : Act) (w : World), ops.toList.all noDefer = true → (∀ a w, ¬ Q .outgrown a w) → wpOps P ops (dq ds Q) is a w → wpOpsIn (fen l) 0 P ops Q is (addD ds a) w
  | [], a, w, _, _, h => h
  | i :: is, a, w, hd, hQ, h => by
    unfold wpOpsIn
    unfold wpOps at h
    cases ho : ops[i]? with
    | none => simp only [ho] at h ⊢; exact wpOpsIn_of is a w hd hQ h
    | some o =>
      have hno : noDefer o = true := List.all_eq_true.1 hd o (by rw [Array.mem_toList_iff]; exact Array.mem_of_getElem? ho)
      simp only [ho] at h ⊢
      have hw : Region.wanted o (yielded ops (addD ds a).tmps) = Region.wanted o (yielded ops a.tmps) := rfl
      rw [hw]
      split
      · rename_i hy
        rw [if_pos hy] at h
        rcases h with h | ⟨_, a', w', hq⟩
        · exact wpIn_of hno hQ (fun a' w' => wpOpsIn_of is a' w' hd hQ) h
        · exact absurd hq (hQ _ _)
      · rename_i hy
        rw [if_neg hy] at h
        exact ⟨fun f _ => fen_fn l f, by rw [addD_put]; exact wpOpsIn_of is _ _ hd hQ h⟩
end

/-- A piece of code in a round of the loop l (or in none), with marks among the deferred calls. -/
def KC (P : Program) (n : Nat) (l : Option Nat) (ds : List Deferred) (Q : Exit → Act → World → Prop) (W : World → Prop) (c : Code) (E : Env) : Prop := ∀ a w, Holds n E a → W w → c.wpIn (fen l) 0 P Q (addD ds a) w

section
variable {P : Program} {n : Nat} {Q : Exit → Act → World → Prop} {W : World → Prop} {E : Env} {l : Option Nat} {ds : List Deferred}
theorem kc_seq {x y : Code} (h : KC P n l ds (Exit.then (y.wpIn (fen l) 0 P Q) Q) W x E) : KC P n l ds Q W (.seq x y) E := fun a w ha hw => wpIn_seq (h a w ha hw)
theorem kc_skip (h : JQ n (dq ds Q) W .normal E) : KC P n l ds Q W .skip E := fun a w ha hw => wpIn_skip (h a w ha hw)
theorem kc_exit {id : Nat} (h : JQ n (dq ds Q) W (.exit id) E) : KC P n l ds Q W (.exit id) E := fun a w ha hw => wpIn_exit (h a w ha hw)
theorem kc_ret (h : JQ n (dq ds Q) W .ret E) : KC P n l ds Q W .ret E := fun a w ha hw => wpIn_ret (h a w ha hw)
theorem kc_block {id : Nat} {c : Code} (h : KC P n l ds (Exit.inBlock id Q) W c E) : KC P n l ds Q W (.block id c) E := fun a w ha hw => wpIn_block (h a w ha hw)
theorem kc_true {c : Operand} {x y : Code} (hc : ev E c = some (.bool true)) (h : KC P n l ds Q W x E) : KC P n l ds Q W (.cond c x y) E :=
  fun a w ha hw => wpIn_cond_true (by rw [addD_eval]; exact ha.ev hc) (h a w ha hw)
theorem kc_false {c : Operand} {x y : Code} (hc : ev E c = some (.bool false)) (h : KC P n l ds Q W y E) : KC P n l ds Q W (.cond c x y) E :=
  fun a w ha hw => wpIn_cond_false (by rw [addD_eval]; exact ha.ev hc) (h a w ha hw)
theorem kc_region {id : Nat} {ol : List Oper} (hd : ol.all noDefer = true) (hQ : ∀ a w, ¬ Q .outgrown a w) (h : JL P n (dq ds Q) W ol.toArray ol E) : KC P n l ds Q W (.region id ol.toArray false) E := fun a w ha hw =>
  wpIn_region_lit (wpListIn_of _ _ _ hd hQ (h a w ha hw))
theorem kc_weaken {c : Code} {F : Env} (hk : Knows E F) (h : KC P n l ds Q W c F) : KC P n l ds Q W c E := fun a w ha hw => h a w (ha.weaken hk) hw
theorem kc_world {c : Code} {W' : World → Prop} (hk : ∀ w, W w → W' w) (h : KC P n l ds Q W' c E) : KC P n l ds Q W c E := fun a w ha hw => h a w ha (hk w hw)
theorem kq_then {c : Code} (h : KC P n l ds Q W c E) : JQ n (dq ds (Exit.then (c.wpIn (fen l) 0 P Q) Q)) W .normal E := h
theorem kq_then_j {c : Code} (h : KC P n none ds Q W c E) : JQ n (dq ds (Exit.then (c.wp P Q) Q)) W .normal E := fun a w ha hw => wpIn_wide.1 (h a w ha hw)
theorem kq_then_exit {K : Act → World → Prop} {id : Nat} (h : JQ n (dq ds Q) W (.exit id) E) : JQ n (dq ds (Exit.then K Q)) W (.exit id) E := h
theorem kq_then_ret {K : Act → World → Prop} (h : JQ n (dq ds Q) W .ret E) : JQ n (dq ds (Exit.then K Q)) W .ret E := h
theorem kq_hit {id : Nat} (h : JQ n (dq ds Q) W .normal E) : JQ n (dq ds (Exit.inBlock id Q)) W (.exit id) E := fun a w ha hw => by
  unfold dq Exit.inBlock; simp only [if_true]; exact h a w ha hw
theorem kq_miss {id id' : Nat} (hne : Nat.beq id' id = false) (h : JQ n (dq ds Q) W (.exit id') E) : JQ n (dq ds (Exit.inBlock id Q)) W (.exit id') E := fun a w ha hw => by
  unfold dq Exit.inBlock; simp only [Nat.ne_of_beq_eq_false hne, if_false]; exact h a w ha hw
theorem kq_block {id : Nat} (h : JQ n (dq ds Q) W .normal E) : JQ n (dq ds (Exit.inBlock id Q)) W .normal E := h
theorem kq_block_ret {id : Nat} (h : JQ n (dq ds Q) W .ret E) : JQ n (dq ds (Exit.inBlock id Q)) W .ret E := h
theorem kc_draw_of [Mixed P] {id : Nat} {ops : Array Oper} (hd : ops.toList.all noDefer = true) (hQ : ∀ a w, ¬ Q .outgrown a w)
    (h : ∀ a w, Holds n E a → W w → wpAny P .any ops (dq ds Q) ops.size (Array.replicate ops.size false) a { w with drawn := w.drawn + 1 }) : KC P n l ds Q W (.region id ops true) E := fun a w ha hw =>
  wpIn_region_draw fun t => by
    simp only [Region.schedule, (Mixed.h : P.follows .mixedOrders = true), Bool.true_or, if_true]
    exact wpOpsIn_of _ _ _ hd hQ (wpAny_sound ops.size t _ a _ (h a w ha hw))
theorem any_tail {C : World → Prop} {a : Act} {w : World} {ol : List Oper} (m : Nat) (hB : Region.lexTailB .any ol.toArray m = true) (hC : C w)
    (h : wpQuiet P ol.toArray C (fun a' => ∀ w', C w' → wpList P ol.toArray Q (ol.drop m) a' w') (ol.take m) a) : wpAny P .any ol.toArray Q ol.toArray.size (Array.replicate ol.toArray.size false) a w := by
  simp only [Region.lexTailB, Bool.and_eq_true, decide_eq_true_eq] at hB
  obtain ⟨⟨⟨⟨hsel, hn⟩, hs⟩, hc⟩, hlex⟩ := hB
  have hn' : m < ol.length := by simpa using hn
  have htl : (ol.take m).length = m := by simp; omega
  have hdl : (ol.drop m).length = ol.toArray.size - m := by simp
  have inv0 : HeadInv .any ol.toArray m (Array.replicate ol.toArray.size false) :=
    ⟨by simp, fun j oj _ hl => (by rw [getD_replicate_false] at hl; cases hl), fun t _ ht => getD_in (by simpa using ht) (getD_replicate_false _ _)⟩
  have H := anyHead_lex (md := .any) (m := ol.toArray.size - m) hsel hs hc hn (ol.take m) 0 _ a (fun j hj => by
    have hj' : j < m := by rw [htl] at hj; exact hj
    simp [hj']) (by simpa using htl) inv0 (by rw [htl]; exact hlex) h
  have := wpAny_of_anyHead (Q' := Q) (m := ol.toArray.size - m) (fun listed a' w' hw' hL => by
    have := wpAny_of_seq (md := .any) (Q' := Q) (ol.drop m) m listed a' w' (fun j => by simp [List.getElem?_drop]) (by rw [hdl]; exact hL.1) (hL.2 w' hw')
    rwa [hdl] at this) _ _ _ _ hC H
  rw [htl, show m + (ol.toArray.size - m) = ol.toArray.size by omega] at this
  exact this
theorem kc_tail [Mixed P] {id : Nat} {ol : List Oper} (m : Nat) (hB : Region.lexTailB .any ol.toArray m = true) (hC : ∀ w, W w → W w.drew) (hd : ol.all noDefer = true) (hQ : ∀ a w, ¬ Q .outgrown a w)
    (h : JT P n (dq ds Q) W ol.toArray (ol.drop m) (ol.take m) E) : KC P n l ds Q W (.region id ol.toArray true) E :=
  kc_draw_of (by simpa using hd) hQ fun a w ha hw => any_tail (C := W) m hB (hC w hw) (h a ha)
end

/-! ### The rounds -/
/-- The code is left at its end alone. -/
def onlyN (K : Act → World → Prop) : Exit → Act → World → Prop
  | .normal, a, w => K a w
  | _, _, _ => False
section
variable {P : Program} {n : Nat} {Q : Exit → Act → World → Prop} {W W' : World → Prop} {E F : Env}
theorem kq_assigned (hk : Knows E F) (hw : ∀ w, W w → W' w) : JQ n (dq [] (onlyN fun a w => Holds n F a ∧ W' w)) W .normal E := fun a w ha hw' => by
  have h := ha.weaken hk
  exact ⟨⟨by show a.defers ++ [] = []; rw [List.append_nil]; exact h.nodef, h.size, h.slot⟩, hw w hw'⟩
theorem kq_over (hw : ∀ w, W w → W' w) : JQ n (dq [] (onlyN fun _ w => W' w)) W .normal E := fun _ w _ hw' => hw w hw'

def marked (D : Nat) : List Deferred := [{ target := .collected D, args := #[] }]
theorem zip_put : ∀ (ps : List Nat) (vs : List Value) (a : Act) (E : Env), ps.length = vs.length → (∀ p ∈ ps, p < n) → Holds n E a →
    Holds n ((ps.zip vs).reverse ++ E) { tmps := (ps.zip vs).foldl (fun t (x : Nat × Value) => t.setIfInBounds x.1 x.2) a.tmps, defers := [] }
  | [], _, a, E, _, _, h => by simpa using ⟨rfl, h.size, h.slot⟩
  | p :: ps, [], a, E, hl, _, h => by cases hl
  | p :: ps, v :: vs, a, E, hl, hp, h => by
    have := zip_put ps vs (a.put (some p) v) ((p, v) :: E) (by simpa using hl) (fun q hq => hp q (by simp [hq])) (h.put (hp p (by simp)) v)
    simpa [Act.put] using this

theorem Ch.putObj (w : World) (b : Nat) (o : Obj) : Ch [b] w (w.putObj b o) := ⟨rfl, rfl, rfl, by simp, fun k _ hk => World.putObj_heap_other (fun e => hk (by simp [e]))⟩
theorem Hp.putObj {w0 w : World} {S : List Nat} {H H' : List HA} {b : Nat} {o o' : Obj} (h : Hp w0 S H w) (r : Rep (.obj b o) (.obj b o') H H') : Hp w0 S H' (w.putObj b o') :=
  h.upd r (Ch.putObj w b o') (by simp [HA.foot]) (World.putObj_heap_same (HA.lt (h.get r.mem) rfl)) (fun k hk => .inl hk)

/-- What a round finds, and the one behind it: the caller's own blocks, and the loop's. -/
abbrev RJ (w0 : World) (S : List Nat) (I : List HA) (l D : Nat) (rec : Loop) (w : World) : Prop := Hp w0 S (.obj l (.loop rec) :: .obj D (.deferred (some [])) :: I) w
theorem RJ.perm {w0 w : World} {S : List Nat} {A B : HA} {I : List HA} (h : Hp w0 S (A :: B :: I) w) : Hp w0 S (I ++ [A, B]) w :=
  Hp.perm h (by
    have : (A :: B :: I).Perm ([A, B] ++ I) := .refl _
    exact this.trans List.perm_append_comm)
theorem RJ.perm' {w0 w : World} {S : List Nat} {A B : HA} {I : List HA} (h : Hp w0 S (I ++ [A, B]) w) : Hp w0 S (A :: B :: I) w :=
  Hp.perm h (by
    have : ([A, B] ++ I).Perm (A :: B :: I) := .refl _
    exact List.perm_append_comm.trans this)

theorem one_round {w0 w : World} {S : List Nat} {I I' : List HA} {l D : Nat} {rec : Loop} (hrec : rec.state = .ready) (hpend : rec.pending = none) {vs : List Value} (hl : vs.length = rec.params.size) (hp : ∀ p ∈ rec.params.toList, p < n) {a : Act} (ha : Holds n E a) (hat : rec.tmps = a.tmps)
    (hassign : ∀ G, KC P n (some l) [] (onlyN fun a w => Holds n F a ∧ Hp w0 S (I ++ G) w) (Hp w0 S (I ++ G)) rec.assign ((rec.params.toList.zip vs).reverse ++ E))
    (hbody : ∀ G, KC P n (some l) [] (onlyN fun _ w => Hp w0 S (I' ++ G) w) (Hp w0 S (I ++ G)) rec.body F)
    (hw : RJ w0 S I l D rec w) : YieldAt Fence.wide 0 P l vs.toArray w fun e w' => e = .returned (.bool true) ∧ RJ w0 S I' l D rec w' := by
  have hL : w.heap[l]? = some (.loop rec) := hw.get (A := .obj l (.loop rec)) (by simp)
  refine ⟨rec.fn, _, rec.assign, rec.body, run_yield hL (by simpa using hl), roundIn_of_wpIn trivial ?_⟩
  have hz : (rec.params.zip vs.toArray).foldl (fun tmps (t, a) => tmps.setIfInBounds t a) rec.tmps = (rec.params.toList.zip vs).foldl (fun t (x : Nat × Value) => t.setIfInBounds x.1 x.2) rec.tmps := by
    rw [← Array.foldl_toList, Array.toList_zip]
  have hH := zip_put rec.params.toList vs a E (by simpa using hl.symm) hp ha
  rw [← hat] at hH
  rw [hz]
  have h1 := hassign [.obj l (.loop rec), .obj D (.deferred (some []))] _ w hH (RJ.perm hw)
  refine wpIn_mono h1 ?_
  intro e a1 w1 hq
  cases e with
  | normal =>
    obtain ⟨hF, hw1⟩ := hq
    have hw1 := RJ.perm' hw1
    have hL1 : w1.heap[l]? = some (.loop rec) := hw1.get (A := .obj l (.loop rec)) (by simp)
    refine ⟨_, run_beginRound hL1 hrec, ?_⟩
    have hw2 : Hp w0 S (.obj l (.loop { rec with state := .busy }) :: .obj D (.deferred (some [])) :: I) (w1.putObj l (.loop { rec with state := .busy })) := hw1.putObj rep0
    have h2 := hbody [.obj l (.loop { rec with state := .busy }), .obj D (.deferred (some []))] a1 _ hF (RJ.perm hw2)
    have hadd : addD [] a1 = a1 := by unfold addD; simp
    rw [hadd] at h2
    refine wpIn_mono h2 ?_
    intro e a3 w3 hq
    cases e with
    | normal =>
      have hw3 := RJ.perm' hq
      have hL3 : w3.heap[l]? = some (.loop { rec with state := .busy }) := hw3.get (A := .obj l (.loop { rec with state := .busy })) (by simp)
      have := run_endRound (P := P) none hL3
      refine ⟨_, _, this, rfl, ?_⟩
      have hrr : ({ rec with state := if (none : Option Code).isNone then .ready else .done, pending := none } : Loop) = rec := by
        cases rec; simp at hrec hpend; subst hrec; subst hpend; rfl
      have h4 := hw3.putObj (o' := .loop rec) rep0
      rw [← hrr] at h4
      rw [hrr] at h4
      have e2 : w3.putObj l (.loop { { rec with state := .busy } with state := if (none : Option Code).isNone then .ready else .done, pending := none }) = w3.putObj l (.loop rec) := by
        show w3.putObj l (.loop { rec with state := if (none : Option Code).isNone then .ready else .done, pending := none }) = _
        rw [hrr]
      rw [e2]
      exact h4
    | exit id => exact hq.elim
    | goto t => exact hq.elim
    | ret => exact hq.elim
    | panic ch => exact hq.elim
    | outgrown => exact hq.elim
  | exit id => exact hq.elim
  | goto t => exact hq.elim
  | ret => exact hq.elim
  | panic ch => exact hq.elim
  | outgrown => exact hq.elim

/-- THE STATEMENT, over an iterator that hands over the N values 'enc' and no more. -/
theorem jc_range {w0 : World} {S : List Nat} {g : Operand} {ps : Array Tmp} {assign body : Code} {gf : Nat} {lb : List Value} (N : Nat) (enc : Nat → List Value) (I : Nat → List HA) (F : Nat → Env)
    (hg : ev E g = some (.func (.func gf) #[] lb.toArray)) [hB : HasBody P gf] (hps : ∀ k, (enc k).length = ps.size) (hp : ∀ p ∈ ps.toList, p < n)
    (h0 : ∀ w, W w → Hp w0 S (I 0) w)
    (hiter : ∀ l D rec w1, RJ w0 S (I 0) l D rec w1 → (∀ k w, k < N → RJ w0 S (I k) l D rec w → YieldAt Fence.wide 0 P l (enc k).toArray w fun e w' => e = .returned (.bool true) ∧ RJ w0 S (I (k + 1)) l D rec w') →
      Calls P gf (.func (.yield l) #[] #[] :: lb).toArray w1 fun e w' => (∃ v, e = .returned v) ∧ RJ w0 S (I N) l D rec w')
    (hassign : ∀ l k G, k < N → KC P n (some l) [] (onlyN fun a w => Holds n (F k) a ∧ Hp w0 S (I k ++ G) w) (Hp w0 S (I k ++ G)) assign ((ps.toList.zip (enc k)).reverse ++ E))
    (hbody : ∀ l k G, k < N → KC P n (some l) [] (onlyN fun _ w => Hp w0 S (I (k + 1) ++ G) w) (Hp w0 S (I k ++ G)) body (F k))
    (hdone : ∀ D, JQ n (dq (marked D) Q) (Hp w0 S (.obj D (.deferred (some [])) :: I N)) .normal E) : JC P n Q W (.rangeFunc g ps assign body) E := by
  intro a w ha hw
  refine (wpIn_wide (n := 0)).1 (wpIn_rangeFunc (F := Fence.wide) ?_)
  intro fn _
  have hw0 := h0 w hw
  obtain ⟨rec, hrec⟩ : ∃ rec : Loop, rec = { state := .ready, pending := none, fn, tmps := a.tmps, params := ps, assign, body, defers := w.heap.size } := ⟨_, rfl⟩
  have hw1 : RJ w0 S (I 0) (w.heap.size + 1) w.heap.size rec ((w.alloc (.deferred (some []))).alloc (.loop rec)) := by
    have h1 : Hp w0 S (.obj w.heap.size (.deferred (some [])) :: I 0) (w.alloc (.deferred (some []))) :=
      hw0.new (Ch.alloc w _) (World.alloc_heap_new w _) (fun k hk => by cases hk; exact Nat.le_refl _)
    refine h1.new (Ch.alloc _ _) ?_ (fun k hk => by cases hk; simp)
    have := World.alloc_heap_new (w.alloc (.deferred (some []))) (.loop rec)
    rwa [World.size_alloc] at this
  refine ⟨w.heap.size + 1, marked w.heap.size, (w.alloc (.deferred (some []))).alloc (.loop rec), { target := .fn (.func gf) lb.toArray, args := #[.func (.yield (w.heap.size + 1)) #[] #[]] }, (w.alloc (.deferred (some []))).alloc (.loop rec), gf,
    #[.func (.yield (w.heap.size + 1)) #[] #[]] ++ lb.toArray, (w.alloc (.deferred (some []))).alloc (.loop rec), ?_, ?_, ?_, ?_, fun h => (by cases h), ?_⟩
  · rw [hrec]; exact run_enterLoop_outer _ _ _ _ _
  · simp only [resolve, ha.ev hg]
    simp [go_sem]
  · intro f' _; exact trivial
  · simp [invoke, go_sem, hB.h]
  · refine callsIn_wide.2 ?_
    have hc := hiter (w.heap.size + 1) w.heap.size rec _ hw1 (fun k w1 hk h => by
      have hr := one_round (P := P) (n := n) (E := E) (F := F k) (a := a) (rec := rec) (vs := enc k) (I := I k) (I' := I (k + 1)) (l := w.heap.size + 1) (D := w.heap.size) (w0 := w0) (S := S) (w := w1)
        (by rw [hrec]) (by rw [hrec]) (by rw [hrec]; exact hps k) (by rw [hrec]; exact hp) ha (by rw [hrec])
        (fun G => by rw [hrec]; exact hassign _ k G hk) (fun G => by rw [hrec]; exact hbody _ k G hk) h
      exact hr)
    have he : (Value.func (.yield (w.heap.size + 1)) #[] #[] :: lb).toArray = #[.func (.yield (w.heap.size + 1)) #[] #[]] ++ lb.toArray := by simp
    rw [he] at hc
    refine hc.mono ?_
    rintro e w2 ⟨⟨v, rfl⟩, hw2⟩
    have hL2 : w2.heap[w.heap.size + 1]? = some (.loop rec) := hw2.get (A := .obj (w.heap.size + 1) (.loop rec)) (by simp)
    have hp0 : rec.pending = none := by rw [hrec]
    refine ⟨none, w2.putObj (w.heap.size + 1) (.loop { rec with state := .exhausted }), ?_, ?_⟩
    · rw [run_endLoop hL2 (by rw [hrec]; simp), hp0]
    have h3 := hw2.putObj (o' := .loop { rec with state := .exhausted }) rep0
    have hd := hdone w.heap.size a _ ha h3.pop
    unfold dq addD at hd
    rw [ha.nodef] at hd ⊢
    exact hd
end

/-! ### A function that holds such a loop -/
section
variable {P : Program} {n : Nat} {E : Env} {W : World → Prop} {fn : Func} {R : Ending → World → Prop}
theorem calls_of_m {f : FuncId} {c : Code} {args : List Value} {w0 : World} (hf : P.funcs[f]? = some fn) (hb : fn.body = some c) (hn : fn.ntmps = n) (hle : args.length ≤ n) (hE : envOf 0 args = E) (hW : W w0)
    (h : JC P n (bodyPostM Fence.wide 0 P fn R) W c E) : Calls P f args.toArray w0 R :=
  (callsIn_wide (n := 0)).1 (callsIn_of_wp_marks hf hb trivial (wpIn_wide.2 (h _ _ ⟨rfl, by simp; omega, fun i v hi => by
    have h1 : args[i]? = some v := by subst hE; simpa using (lk_envOf args 0 i v hi).2
    have h2 : i < args.length := (List.getElem?_eq_some_iff.1 h1).1
    simp [Array.getElem?_append, h2]
    exact (List.getElem?_eq_some_iff.1 h1).2⟩ hW)))
theorem jq_postM {W : World → Prop} (h : JQ n (bodyPost P fn R) W .ret E) : JQ n (bodyPostM Fence.wide 0 P fn R) W .ret E := fun a w ha hw => by
  obtain ⟨hd, v, hr, hR⟩ := h a w ha hw
  show LeavesInM Fence.wide 0 P fn a.tmps R a.defers .returning w
  rw [hd]
  exact ⟨v, hr, hR⟩
/-- The return behind the loop: the mark is come to. -/
theorem kq_postM {w0 : World} {S : List Nat} {H : List HA} {D : Nat} (h : JQ n (bodyPost P fn R) (Hp w0 S H) .ret E) {W : World → Prop} (hW : ∀ w, W w → Hp w0 S (.obj D (.deferred (some [])) :: H) w) : JQ n (dq (marked D) (bodyPostM Fence.wide 0 P fn R)) W .ret E := fun a w ha hw => by
  have hw := hW w hw
  have hK : w.heap[D]? = some (.deferred (some [])) := hw.get (A := .obj D (.deferred (some []))) (by simp)
  have h2 := (hw.putObj (o' := .deferred none) rep0).pop
  obtain ⟨hd, v, hr, hR⟩ := h a _ ha h2
  show LeavesInM Fence.wide 0 P fn a.tmps R (a.defers ++ marked D) .returning w
  rw [hd]
  exact ⟨by simp, .inl ⟨D, _, rfl, run_takeDeferred hK, ⟨v, hr, hR⟩⟩⟩
end

/-! ### The iterator: a call of yield in a region -/
section
variable {P : Program} {n : Nat} {Q : Exit → Act → World → Prop} {W W' : World → Prop} {E : Env}
theorem jc_rebase {c : Code} (h : ∀ w0, W w0 → JC P n Q (Hp w0 [] []) c E) : JC P n Q W c E := fun a w ha hw => h w hw a w ha (Hp.nil w [])
theorem jc_split {id : Nat} {ol : List Oper} (m : Nat) (hd : (ol.take m).all noDefer = true) (hQ : ∀ a w, ¬ Q .outgrown a w)
    (h : JL P n (Exit.then (fun a w => wpListIn (fen none) 0 P ol.toArray Q (ol.drop m) a w) Q) W ol.toArray (ol.take m) E) : JC P n Q W (.region id ol.toArray false) E := fun a w ha hw => by
  refine (wpIn_wide (n := 0)).1 (wpIn_region_lit ?_)
  have key : ∀ (l1 l2 : List Oper) (a : Act) (w : World), l1.all noDefer = true → wpList P ol.toArray (Exit.then (fun a w => wpListIn (fen none) 0 P ol.toArray Q l2 a w) Q) l1 a w → wpListIn Fence.wide 0 P ol.toArray Q (l1 ++ l2) a w := by
    intro l1 l2
    induction l1 with
    | nil => intro a w _ h; exact h
    | cons o l1 ih =>
      intro a w hd h
      simp only [List.all_cons, Bool.and_eq_true] at hd
      show wpListIn Fence.wide 0 P ol.toArray Q (o :: (l1 ++ l2)) a w
      unfold wpListIn
      unfold wpList at h
      split
      · rename_i hy
        rw [if_pos hy] at h
        rcases h with h | ⟨_, a', w', hq⟩
        · have hadd : ∀ a : Act, addD [] a = a := fun a => by unfold addD; simp
          have := wpIn_of (l := none) (ds := []) (K' := wpListIn Fence.wide 0 P ol.toArray Q (l1 ++ l2)) (Q := Q) hd.1 hQ (fun a' w' h' => by rw [hadd]; exact ih a' w' hd.2 h') (a := a) (w := w) (P := P)
            (by
              refine wp_otherQ (fun c a w hq => ?_) (fun hq => ?_) h
              · unfold dq; rw [hadd]; exact hq
              · obtain ⟨a', w', hq⟩ := hq; exact absurd hq (hQ _ _))
          rw [hadd] at this
          exact this
        · exact absurd hq (hQ _ _)
      · rename_i hy
        rw [if_neg hy] at h
        exact ⟨fun f _ => trivial, ih _ _ hd.2 h⟩
  have := key (ol.take m) (ol.drop m) a w hd (h a w ha hw)
  rwa [List.take_append_drop] at this
theorem jq_yield {ι : Type} {ops : Array Oper} {rest : List Oper} {d lp : Nat} {x : Operand} {xs : Array Operand} {ts : Array TypeId} {vs : List Value} {v : ι → Value} {W' : ι → World → Prop} {dd : Option Tmp} {ty : Nat} {pos : String} {af : Array Edge} {g : Option (Nat × Bool)}
    (hd : dd = some d) (hn : d < n) (hg : g = none) (hrest : rest.all noDefer = true) (hQ : ∀ a w, ¬ Q .outgrown a w) (hx : ev E x = some (.func (.yield lp) #[] #[])) (hxs : evs E xs.toList = some vs)
    (hY : ∀ w, W w → YieldAt Fence.wide 0 P lp vs.toArray w fun e w' => ∃ i, e = .returned (v i) ∧ W' i w') (k : ∀ i, JL P n Q (W' i) ops rest ((d, v i) :: E)) :
    JQ n (Exit.then (fun a w => wpListIn (fen none) 0 P ops Q (⟨dd, .call { callee := .value x, args := xs, argTypes := ts }, ty, pos, af, g⟩ :: rest) a w) Q) W .normal E := fun a w ha hw => by
  subst hd; subst hg
  show wpListIn Fence.wide 0 P ops Q _ a w
  refine wpListIn_plain rfl fun K hK => ?_
  obtain ⟨fnn, tmps, assign, body, hy, hR⟩ := hY w hw
  have h1 : xs.map a.eval = vs.toArray := by apply Array.toList_inj.1; simpa using ha.evs hxs
  refine ⟨fun f _ => trivial, ?_⟩
  have hrun : (execOp a.eval ⟨some d, .call { callee := .value x, args := xs, argTypes := ts }, ty, pos, af, none⟩).run P w = .ok (.round lp fnn tmps assign body) w := by
    simp [execOp, resolve, ha.ev hx, h1, Deferred.ofValue, invoke, hy]
  show Oper.uponIn _ _ _ _ _ _ _ (((Oper.semAt none a.eval _)).run P w)
  rw [Oper.semAt_none, hrun, Oper.uponIn_round]
  refine ⟨fun hs => (by cases hs), ?_⟩
  refine hR.mono ?_
  rintro e w' ⟨i, rfl, hw'⟩
  refine hK _ _ ?_
  have hadd : ∀ a : Act, addD [] a = a := fun a => by unfold addD; simp
  have h2 := k i _ _ (ha.put hn (v i)) hw'
  have hdq : dq [] Q = Q := by funext e a w; unfold dq; rw [hadd]
  rw [← hdq] at h2
  have := wpListIn_of (l := none) (ds := []) (Q := Q) rest _ _ hrest hQ h2
  rw [hadd] at this
  exact this
end
section
variable {P : Program} {n : Nat} {W : World → Prop} {E : Env}
theorem y_slice_arr {m e b size bytes : Nat} {zv : List Value} {x : Operand} {T ty : Nat} {d : Option Tmp} {pos : String} {af : Array Edge} {g : Option (Nat × Bool)} [hT : TArr P T m e] [hI : TInfo P e size bytes zv] (hx : ev E x = some (.pointer (some ⟨b, 0, none⟩))) :
    Yields P n E W ⟨d, .slice T x none none none, ty, pos, af, g⟩ (.slice (some ⟨b, 0, none⟩) m m) := fun a w ha _ => by
  obtain ⟨i, z, hi, hs, _⟩ := hI.h
  simp [execOp, ha.ev hx, Instr.sliceAt, run_underlying hT.h, Instr.sureAddr, Instr.sliceBounds, sizeOf, typeInfo, hi, addr_add]
end
/-- The whole of a list in the place of the whole of another. -/
theorem PutAt.whole {α : Type} : ∀ {us vs : List α}, us.length = vs.length → PutAt 0 us vs us
  | [], [], _ => .done
  | _ :: _, _ :: _, h => .put (PutAt.whole (by simpa using h))
  | [], _ :: _, h => by cases h
  | _ :: _, [], h => by cases h
theorem TakeAt.whole {α : Type} {vs : List α} {n : Nat} (h : vs.length = n) : TakeAt 0 n vs vs := TakeAt.of (by rw [List.drop_zero, ← h, List.take_length]) (by omega)
theorem ones_int (k : IntKind) (l : List Int) : (l.map (Value.int k)).all Value.oneCell' = true := by rw [List.all_map]; exact List.all_eq_true.2 fun _ _ => rfl
end Go.Proofs.YtghomncegjamfaaGreat
