/- The walk of LotteryPuts. Written by program (walk.py) out of a table of contracts and invariants. -/
import Derived.Test.YtghomncegjamfaaGreatLz
import Derived.Test.YtghomncegjamfaaGreatJy
namespace Go.Proofs.YtghomncegjamfaaGreat
open Go.RowKit
set_option maxRecDepth 100000
set_option maxHeartbeats 2000000
set_option linter.unusedVariables false
set_option linter.unusedSimpArgs false
attribute [local irreducible] Yields Makes Writes
attribute [local irreducible] commitS signK rootK
theorem makeB_or (B : Bk) (face wins many : Int) (salt : ByteArray) (raw : Int) : makeB B face wins many salt raw = B ∨ (makeE B face wins many salt raw = 0 ∧ makeB B face wins many salt raw = { B with next := (B.next + 1) % 18446744073709551616, l := B.l ++ [newO B face wins many salt raw] }) := by
  by_cases h : makeE B face wins many salt raw = 0
  · exact .inr ⟨h, if_pos h⟩
  · exact .inl (if_neg h)
theorem room_len {l : List Of} {f : Int} (h : roomE l f = 0) : l.length < 8 := by
  unfold roomE at h
  split at h
  · exact absurd h (by decide)
  · omega
theorem fit_make {B : Bk} (h : B.Fit) (hc : B.chan.size ≤ 1000) {face wins many : Int} {salt : ByteArray} {raw : Int} (h1 : fits .u64 face) (h2 : fits .u64 wins) (h3 : fits .u64 many) (h4 : fits .u64 raw) : (makeB B face wins many salt raw).Fit := by
  rcases makeB_or B face wins many salt raw with e | ⟨hz, e⟩
  · rw [e]; exact h
  · obtain ⟨m1, m2, m3, m4, m5⟩ := makeE_zero hz
    have hlen := room_len m5
    rw [e]
    refine ⟨by simp only [fits]; omega, fun o ho => ?_, fun o ho => ?_, by show (B.l ++ [_]).length ≤ 8; rw [List.length_append]; simp only [List.length_singleton]; omega⟩
    · rcases List.mem_append.1 ho with ho | ho
      · exact h.l o ho
      · rw [List.mem_singleton.1 ho]; exact ⟨h.next, h1, h2, h3, fairV_fits raw many h4⟩
    · rcases List.mem_append.1 ho with ho | ho
      · exact h.low o ho
      · rw [List.mem_singleton.1 ho]; exact ⟨hc, commit_sz _ _, by show salt.size ≤ 1000; omega⟩
theorem fit_gone {B : Bk} (h : B.Fit) (s : Int) : (goneB B s).Fit := by
  unfold goneB
  split
  · exact h
  · have hs : (B.l.eraseIdx (findL B.l s).toNat).Sublist B.l := List.eraseIdx_sublist _ _
    refine ⟨h.next, fun o ho => h.l o (hs.subset ho), fun o ho => h.low o (hs.subset ho), ?_⟩
    have := hs.length_le
    have := h.len
    show (B.l.eraseIdx _).length ≤ 8
    omega
theorem make_chan (B : Bk) (face wins many : Int) (salt : ByteArray) (raw : Int) : (makeB B face wins many salt raw).chan = B.chan ∧ (makeB B face wins many salt raw).cl = B.cl := by
  unfold makeB; split <;> exact ⟨rfl, rfl⟩
theorem gone_chan (B : Bk) (s : Int) : (goneB B s).chan = B.chan ∧ (goneB B s).cl = B.cl := by
  unfold goneB; split <;> exact ⟨rfl, rfl⟩
/-- What is known of a book on which so many calls were made. -/
structure PI (n : Nat) (B : Bk) : Prop where
  ok : Ok strCh 50 B
  fit : B.Fit
  next : B.next ≤ n + 1
theorem PI.new (cl : ByteArray) : PI 0 ⟨strCh, cl, 1, []⟩ := ⟨ok_new _ _ _, nil_fit ⟨by decide, by decide⟩, by show (1 : Int) ≤ (0 : Nat) + 1; omega⟩
theorem PI.gone {n : Nat} {B : Bk} (h : PI n B) (s : Int) : PI (n + 1) (goneB B s) := ⟨h.ok.gone s, fit_gone h.fit s, by rw [gone_next]; have := h.next; omega⟩
theorem PI.len {n : Nat} {B : Bk} (h : PI n B) : B.l.length ≤ 1000 := by have := h.ok.len; omega
theorem PI.make {n : Nat} {B : Bk} (h : PI n B) (hn : n ≤ 12) {face wins many : Int} {salt : ByteArray} {raw : Int} (hf : 0 ≤ face ∧ face ≤ 50) (hm : 1 ≤ many ∧ wins ≤ many) (h1 : fits .u64 face) (h2 : fits .u64 wins) (h3 : fits .u64 many) (h4 : fits .u64 raw) : PI (n + 1) (makeB B face wins many salt raw) := by
  have hx := h.next
  exact ⟨h.ok.make hf hm (by omega), fit_make h.fit (by rw [h.ok.chan]; decide) h1 h2 h3 h4, by have := make_next (b := B) (face := face) (wins := wins) (many := many) (raw := raw) (salt := salt) h.ok.one (by omega); omega⟩
theorem take_fit {n : Nat} {B : Bk} (h : PI n B) {j : Nat} (hj : j ≤ B.l.length) : Bk.Fit ⟨strCh, strCh, nxt B.l j, B.l.take j⟩ := by
  have h1 := take_ok h.ok strCh hj
  refine ⟨?_, fun o ho => h.fit.l o (List.mem_of_mem_take ho), fun o ho => h.fit.low o (List.mem_of_mem_take ho), h1.len⟩
  have h2 := h1.one
  refine ⟨by show 0 ≤ nxt B.l j; have : 1 ≤ nxt B.l j := h2; omega, ?_⟩
  cases j with
  | zero => show (1 : Int) ≤ 18446744073709551615; decide
  | succ j =>
    have hg := h.ok.good (B.l[j]'(by omega)) (List.getElem_mem _)
    show (B.l.getD j of0).serial + 1 ≤ 18446744073709551615
    rw [List.getD_eq_getElem?_getD, List.getElem?_eq_getElem (by omega)]
    have := hg.high
    show (B.l[j]'(by omega)).serial + 1 ≤ 18446744073709551615
    omega
theorem nxt_last {l : List Of} {m : Nat} {o : Of} (hm : l.length = m + 1) (ho : l[m]'(by omega) = o) : nxt l l.length = o.serial + 1 := by
  subst ho
  have e : nxt l l.length = nxt l (m + 1) := by rw [hm]
  rw [e]
  show (l.getD m of0).serial + 1 = _
  rw [List.getD_eq_getElem?_getD, List.getElem?_eq_getElem (by omega)]; rfl
theorem flat_at {l : List Of} {i : Nat} {o : Of} (h : i < l.length) (ho : l[i] = o) : ∀ j u, (Of.c o)[j]? = some u → (l.flatMap Of.c)[i * 9 + j]? = some u := fun j u hj => by
  have hl : j < 9 := (List.getElem?_eq_some_iff.1 hj).1
  rw [flat_get (c := Of.c) (fun _ => rfl) l i j h hl, ho]; exact hj

end Go.Proofs.YtghomncegjamfaaGreat