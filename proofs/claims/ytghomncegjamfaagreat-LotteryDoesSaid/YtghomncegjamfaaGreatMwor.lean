/- Plain law of what a proof is worth: signed tickets, vouchers, tokens, faces, sums. No program in sight. -/
import Derived.Test.YtghomncegjamfaaGreatMnote
import Derived.Test.YtghomncegjamfaaGreatMpay
import Derived.Test.YtghomncegjamfaaGreatMdraw
import Derived.Test.YtghomncegjamfaaGreatMmerk
namespace Go.Proofs.YtghomncegjamfaaGreat
open Go.RowKit

def signedB (cl : ByteArray) (t : Tk) : Bool := decide (tkText t ≠ ⟨#[]⟩) && verK cl (tkText t) t.sig
def wonE (cl : ByteArray) (x : Wn) : Int :=
  if tkMay x.t = true ∧ winsE x.drawn x.t.wins x.t.many = 0 then
    if signedB cl x.t = true then
      if x.t.commit = commitS x.salt x.drawn then
        if winsB x.drawn x.t.client x.t.wins x.t.many = true then 0 else 13
      else 4
    else 10
  else 1
def wonV (cl : ByteArray) (x : Wn) : Int := if wonE cl x = 0 then x.t.face else 0
structure Tm where
  chan : ByteArray
  client : ByteArray
  anchor : ByteArray
  unit : Int
  tokens : Int
abbrev Tm.c (t : Tm) : List Value := [.string t.chan, .string t.client, .string t.anchor, .int .u64 t.unit, .int .i64 t.tokens]
def paidE (t : Tm) (p : Pf) : Int := if 0 < p.amount then (if verK t.client (vouch t.chan p.amount) p.sig = true then 0 else 10) else (if p.sig = ⟨#[]⟩ then 0 else 10)
def paidV (t : Tm) (p : Pf) : Int := if paidE t p = 0 then p.amount else 0
def tokensE (t : Tm) (p : Pf) : Int := if p.token = ⟨#[]⟩ then 0 else if cntE t.anchor p.token t.tokens = 0 then valE (cntV t.anchor p.token t.tokens) t.unit else cntE t.anchor p.token t.tokens
def tokensV (t : Tm) (p : Pf) : Int := if p.token = ⟨#[]⟩ then 0 else if cntE t.anchor p.token t.tokens = 0 then valV (cntV t.anchor p.token t.tokens) t.unit else 0
/-- one win behind those with these serials -/
def faceE1 (t : Tm) (seen : List Int) (x : Wn) : Int := if x.t.chan = t.chan then (if x.t.serial ∈ seen then 7 else wonE t.client x) else 13
def facesE (t : Tm) (seen : List Int) : List Wn → Int
  | [] => 0
  | x :: r => if faceE1 t seen x = 0 then facesE t (seen ++ [x.t.serial]) r else faceE1 t seen x
def facesV (t : Tm) (l : List Wn) : List Int := if facesE t [] l = 0 then l.map (·.t.face) else []
def sumA (l : List Int) : Int := if 18446744073709551616 ≤ l.sum then 0 else l.sum
def sumE (l : List Int) : Int := if 18446744073709551616 ≤ l.sum then 2 else 0
def partsA (t : Tm) (p : Pf) : List Int := p.wins.map (·.t.face) ++ [p.amount, tokensV t p]
def worthE (t : Tm) (p : Pf) : Int :=
  if pfRight p = true then
    if paidE t p = 0 then
      if tokensE t p = 0 then
        if facesE t [] p.wins = 0 then sumE (partsA t p) else facesE t [] p.wins
      else tokensE t p
    else paidE t p
  else 1
def worthV (t : Tm) (p : Pf) : Int := if worthE t p = 0 then (partsA t p).sum else 0

theorem facesE_seen (t : Tm) : ∀ (l : List Wn) (seen : List Int), facesE t seen l = 0 ↔ (∀ x ∈ l, x.t.chan = t.chan ∧ wonE t.client x = 0 ∧ x.t.serial ∉ seen) ∧ (l.map (·.t.serial)).Nodup
  | [], seen => by simp [facesE]
  | x :: r, seen => by
    unfold facesE
    by_cases h : faceE1 t seen x = 0
    · rw [if_pos h, facesE_seen t r (seen ++ [x.t.serial])]
      unfold faceE1 at h
      by_cases hc : x.t.chan = t.chan
      · rw [if_pos hc] at h
        by_cases hs : x.t.serial ∈ seen
        · rw [if_pos hs] at h; exact absurd h (by decide)
        · rw [if_neg hs] at h
          simp only [List.map_cons, List.nodup_cons, List.mem_cons, List.mem_append, List.mem_map, List.not_mem_nil, or_false, not_or, forall_eq_or_imp, not_exists, not_and]
          refine ⟨fun ⟨h1, h2⟩ => ⟨⟨⟨hc, h, hs⟩, fun y hy => ⟨(h1 y hy).1, (h1 y hy).2.1, (h1 y hy).2.2.1⟩⟩, fun y hy => (h1 y hy).2.2.2, h2⟩, fun ⟨⟨_, h1⟩, h2, h3⟩ => ⟨fun y hy => ⟨(h1 y hy).1, (h1 y hy).2.1, (h1 y hy).2.2, h2 y hy⟩, h3⟩⟩
      · rw [if_neg hc] at h; exact absurd h (by decide)
    · rw [if_neg h]
      refine ⟨fun h2 => absurd h2 h, fun ⟨h1, _⟩ => absurd ?_ h⟩
      obtain ⟨a, b, c⟩ := h1 x (List.mem_cons_self ..)
      unfold faceE1; rw [if_pos a, if_neg c]; exact b
theorem facesE_iff (t : Tm) (l : List Wn) : facesE t [] l = 0 ↔ (∀ x ∈ l, x.t.chan = t.chan ∧ wonE t.client x = 0) ∧ (l.map (·.t.serial)).Nodup := by
  rw [facesE_seen]; simp
theorem facesE_reverse {t : Tm} {l : List Wn} (h : facesE t [] l = 0) : facesE t [] l.reverse = 0 := by
  rw [facesE_iff] at h ⊢
  refine ⟨fun x hx => h.1 x (List.mem_reverse.mp hx), ?_⟩
  rw [List.map_reverse]; unfold List.Nodup; rw [List.pairwise_reverse]; exact h.2.imp fun e => Ne.symm e
theorem facesE_take {t : Tm} {l : List Wn} (h : facesE t [] l = 0) (n : Nat) : facesE t [] (l.take n) = 0 := by
  rw [facesE_iff] at h ⊢
  refine ⟨fun x hx => h.1 x (List.mem_of_mem_take hx), ?_⟩
  rw [List.map_take]; exact h.2.sublist (List.take_sublist ..)
theorem sum_reverse (l : List Int) : l.reverse.sum = l.sum := by
  induction l with
  | nil => rfl
  | cons a l ih => simp only [List.reverse_cons, List.sum_append, List.sum_cons, List.sum_nil, ih]; omega
theorem sum_nonneg {l : List Int} (h : ∀ x ∈ l, 0 ≤ x) : 0 ≤ l.sum := by
  induction l with
  | nil => exact Int.le_refl _
  | cons a l ih =>
    have h1 := h a (List.mem_cons_self ..)
    have h2 := ih fun x hx => h x (List.mem_cons_of_mem _ hx)
    rw [List.sum_cons]; omega
theorem partsA_sum (t : Tm) (p : Pf) : (partsA t p).sum = (p.wins.map (·.t.face)).sum + (p.amount + tokensV t p) := by
  unfold partsA; simp only [List.sum_append, List.sum_cons, List.sum_nil]; omega
theorem sumE_zero {l : List Int} : sumE l = 0 ↔ l.sum < 18446744073709551616 := by
  unfold sumE; split <;> omega
theorem worth_zero {t : Tm} {p : Pf} : worthE t p = 0 ↔ pfRight p = true ∧ paidE t p = 0 ∧ tokensE t p = 0 ∧ facesE t [] p.wins = 0 ∧ (partsA t p).sum < 18446744073709551616 := by
  unfold worthE
  by_cases h1 : pfRight p = true
  · rw [if_pos h1]
    by_cases h2 : paidE t p = 0
    · rw [if_pos h2]
      by_cases h3 : tokensE t p = 0
      · rw [if_pos h3]
        by_cases h4 : facesE t [] p.wins = 0
        · rw [if_pos h4, sumE_zero]; exact ⟨fun h => ⟨h1, h2, h3, h4, h⟩, fun h => h.2.2.2.2⟩
        · rw [if_neg h4]; exact ⟨fun h => absurd h h4, fun h => h.2.2.2.1⟩
      · rw [if_neg h3]; exact ⟨fun h => absurd h h3, fun h => h.2.2.1⟩
    · rw [if_neg h2]; exact ⟨fun h => absurd h h2, fun h => h.2.1⟩
  · rw [if_neg h1]; exact ⟨fun h => absurd h (by decide), fun h => absurd h.1 h1⟩
theorem worthV_zero {t : Tm} {p : Pf} (h : worthE t p = 0) : worthV t p = (partsA t p).sum := by unfold worthV; rw [if_pos h]
/-- the wins in another order -/
theorem worth_turned {t : Tm} {p q : Pf} (h : worthE t p = 0) (hq : q = ⟨p.amount, p.sig, p.token, p.wins.reverse⟩) : worthE t q = 0 ∧ worthV t q = worthV t p := by
  subst hq
  obtain ⟨h1, h2, h3, h4, h5⟩ := worth_zero.mp h
  have hs : (partsA t ⟨p.amount, p.sig, p.token, p.wins.reverse⟩).sum = (partsA t p).sum := by
    rw [partsA_sum, partsA_sum]
    show (p.wins.reverse.map (·.t.face)).sum + (p.amount + tokensV t p) = _
    rw [List.map_reverse, sum_reverse]
  have h0 : worthE t ⟨p.amount, p.sig, p.token, p.wins.reverse⟩ = 0 := by
    rw [worth_zero]
    refine ⟨?_, h2, h3, facesE_reverse h4, by rw [hs]; exact h5⟩
    rw [pfRight_iff] at h1 ⊢
    exact ⟨fun x hx => h1.1 x (List.mem_reverse.mp hx), h1.2.1, h1.2.2.1, by show p.wins.reverse.length ≤ 3; rw [List.length_reverse]; exact h1.2.2.2⟩
  exact ⟨h0, by rw [worthV_zero h0, worthV_zero h, hs]⟩
/-- without the last win -/
theorem worth_less {t : Tm} {p q : Pf} {l : List Wn} {x : Wn} (h : worthE t p = 0) (hl : p.wins = l ++ [x]) (hf : 0 ≤ x.t.face) (hq : q = ⟨p.amount, p.sig, p.token, l⟩) :
    worthE t q = 0 ∧ wonE t.client x = 0 ∧ worthV t p = worthV t q + x.t.face := by
  subst hq
  obtain ⟨h1, h2, h3, h4, h5⟩ := worth_zero.mp h
  have hs : (partsA t p).sum = (partsA t ⟨p.amount, p.sig, p.token, l⟩).sum + x.t.face := by
    rw [partsA_sum, partsA_sum, hl]
    show ((l ++ [x]).map (·.t.face)).sum + (p.amount + tokensV t p) = (l.map (·.t.face)).sum + (p.amount + tokensV t p) + x.t.face
    simp only [List.map_append, List.sum_append, List.map_cons, List.map_nil, List.sum_cons, List.sum_nil]; omega
  have h4' : facesE t [] l = 0 := by
    have := facesE_take h4 l.length
    rw [hl, List.take_left'] at this
    · exact this
    · rfl
  have h0 : worthE t ⟨p.amount, p.sig, p.token, l⟩ = 0 := by
    rw [worth_zero]
    refine ⟨?_, h2, h3, h4', by omega⟩
    rw [pfRight_iff] at h1 ⊢
    rw [hl] at h1
    exact ⟨fun y hy => h1.1 y (List.mem_append_left _ hy), h1.2.1, h1.2.2.1, by have := h1.2.2.2; rw [List.length_append] at this; show l.length ≤ 3; omega⟩
  refine ⟨h0, ?_, by rw [worthV_zero h0, worthV_zero h, hs]⟩
  rw [facesE_iff, hl] at h4
  exact (h4.1 x (List.mem_append_right _ (List.mem_cons_self ..))).2
end Go.Proofs.YtghomncegjamfaaGreat
