/- Plain laws of the lottery: what is taken (LotteryOnce), the family of books (LotteryFamily). No program in sight. -/
import Derived.Test.YtghomncegjamfaaMlop
namespace Go.Proofs.Ytghomncegjamfaa
open Go.RowKit

/-! ### A ticket to an offer -/
def tkSig (o : Of) (c : Int) (s : ByteArray) : Tk := ⟨o.chan, o.serial, o.face, o.wins, o.many, o.commit, c, s⟩
theorem tkSig_text (o : Of) (c : Int) (s : ByteArray) : tkText (tkSig o c s) = tkText (tkOf o c) := rfl
theorem take_at {b : Bk} {i : Nat} {c : Int} {s : ByteArray} (h : Rising b.l) (hi : i < b.l.length) : takeE b (tkSig b.l[i] c s) = (if b.l[i].taken = true then 7 else if signedB b.cl (tkSig b.l[i] c s) = true then 0 else 10) ∧ takeO b (tkSig b.l[i] c s) = b.l[i] := by
  have hf : findL b.l (tkSig b.l[i] c s).serial = i := find_at h hi
  have ho : takeO b (tkSig b.l[i] c s) = b.l[i] := by unfold takeO; rw [hf, off_at hi]
  refine ⟨?_, ho⟩
  unfold takeE
  rw [hf, if_neg (by omega), off_at hi]
  show (if tkSig b.l[i] c s ≠ tkSig b.l[i] c s then (13 : Int) else _) = _
  rw [if_neg (by simp)]
theorem take_set {b : Bk} {i : Nat} {c : Int} {s : ByteArray} (h : Rising b.l) (hi : i < b.l.length) (hz : takeE b (tkSig b.l[i] c s) = 0) : takeB b (tkSig b.l[i] c s) = { b with l := b.l.set i { b.l[i] with taken := true } } := by
  have hf : findL b.l (tkSig b.l[i] c s).serial = i := find_at h hi
  unfold takeB
  rw [if_pos hz, hf, (take_at h hi).2, Int.toNat_natCast]
theorem signed_key (seed : ByteArray) {h i : Nat} (hh : h ≤ 4) (hi : i < 2 ^ h) {o : Of} {c : Int} (hc : o.chan.size = 16) (hm : o.commit.size = 16) (hs : (signK seed h i (tkText (tkOf o c))).size ≤ 400) : signedB (rootK seed h) (tkSig o c (signK seed h i (tkText (tkOf o c)))) = true := by
  rw [signedB_may (tkMay_iff.2 ⟨hc, hm, hs⟩)]
  exact verK_sign seed hh hi (tkText (tkOf o c))
theorem signed_none {cl : ByteArray} {o : Of} {c : Int} : signedB cl (tkSig o c ⟨#[]⟩) = false := by
  have hv : verK cl (tkText (tkSig o c ⟨#[]⟩)) (tkSig o c ⟨#[]⟩).sig = false := ver_no fun h => absurd h.1 (by show ¬ leafE ⟨#[]⟩ = 0; decide)
  unfold signedB
  rw [hv, Bool.and_false]

/-! ### LotteryOnce -/
structure Onc (ch : ByteArray) (M : Int) (b : Bk) (tk : List Int) : Prop where
  ok : Ok ch M b
  flag : ∀ o ∈ b.l, (o.taken = true ↔ o.serial ∈ tk)
  old : ∀ s ∈ tk, s < b.next
theorem onc_new (ch cl : ByteArray) (M : Int) : Onc ch M ⟨ch, cl, 1, []⟩ [] := ⟨ok_new ch cl M, fun o ho => (by cases ho), fun s hs => (by cases hs)⟩
theorem Onc.gone {ch : ByteArray} {M : Int} {b : Bk} {tk : List Int} (h : Onc ch M b tk) (s : Int) : Onc ch M (goneB b s) tk := by
  refine ⟨h.ok.gone s, fun o ho => ?_, fun x hx => by rw [gone_next]; exact h.old x hx⟩
  refine h.flag o ?_
  unfold goneB at ho
  split at ho
  · exact ho
  · exact (List.eraseIdx_sublist _ _).subset ho
theorem Onc.make {ch : ByteArray} {M : Int} {b : Bk} {tk : List Int} (h : Onc ch M b tk) {face wins many raw : Int} {salt : ByteArray} (hf : 0 ≤ face ∧ face ≤ M) (hm : 1 ≤ many ∧ wins ≤ many) (hn : b.next < 9223372036854775807) : Onc ch M (makeB b face wins many salt raw) tk := by
  refine ⟨h.ok.make hf hm hn, fun o ho => ?_, fun x hx => ?_⟩
  · unfold makeB at ho
    split at ho
    · rcases List.mem_append.1 ho with ho | ho
      · exact h.flag o ho
      · rw [List.mem_singleton.1 ho]
        show (false = true ↔ b.next ∈ tk)
        exact ⟨fun e => absurd e (by decide), fun e => absurd (h.old _ e) (Int.lt_irrefl _)⟩
    · exact h.flag o ho
  · have := h.old x hx
    have h1 := h.ok.one
    unfold makeB
    split
    · show x < (b.next + 1) % 18446744073709551616; omega
    · exact this
theorem Onc.take {ch : ByteArray} {M : Int} {b : Bk} {tk : List Int} (h : Onc ch M b tk) {i : Nat} (hi : i < b.l.length) : Onc ch M { b with l := b.l.set i { b.l[i] with taken := true } } (tk ++ [b.l[i].serial]) := by
  have hmem : ∀ o ∈ b.l.set i { b.l[i] with taken := true }, ∃ j, ∃ hj : j < b.l.length, o.serial = b.l[j].serial ∧ (o = { b.l[i] with taken := true } ∧ j = i ∨ o = b.l[j] ∧ j ≠ i) := fun o ho => by
    obtain ⟨j, hj, e⟩ := List.mem_iff_getElem.1 ho
    rw [List.length_set] at hj
    rw [List.getElem_set] at e
    refine ⟨j, hj, ?_⟩
    by_cases q : i = j
    · subst q; rw [if_pos rfl] at e; exact ⟨by rw [← e], .inl ⟨e.symm, rfl⟩⟩
    · rw [if_neg q] at e; exact ⟨by rw [← e], .inr ⟨e.symm, fun z => q z.symm⟩⟩
  have hgood : ∀ o ∈ b.l.set i { b.l[i] with taken := true }, Good ch M o := fun o ho => by
    obtain ⟨j, hj, _, e | e⟩ := hmem o ho
    · have := h.ok.good _ (List.getElem_mem hi)
      rw [e.1]
      exact ⟨this.chan, this.low, this.high, this.face, this.salt, this.nom, this.wins, this.com⟩
    · rw [e.1]; exact h.ok.good _ (List.getElem_mem hj)
  have hrise : Rising (b.l.set i { b.l[i] with taken := true }) := by
    unfold Rising
    rw [List.pairwise_iff_getElem]
    intro j k hj hk hjk
    rw [List.length_set] at hj hk
    have hs : ∀ m (hm : m < b.l.length), ((b.l.set i { b.l[i] with taken := true })[m]'(by rw [List.length_set]; exact hm)).serial = b.l[m].serial := fun m hm => by
      rw [List.getElem_set]
      split
      · rename_i e; subst e; rfl
      · rfl
    rw [hs j hj, hs k hk]
    exact h.ok.rising.get hjk hk
  refine ⟨⟨h.ok.chan, hrise, hgood, fun o ho => ?_, h.ok.one, by show (b.l.set _ _).length ≤ 8; rw [List.length_set]; exact h.ok.len⟩, fun o ho => ?_, fun s hs => ?_⟩
  · obtain ⟨j, hj, e, _⟩ := hmem o ho
    rw [e]; exact h.ok.next _ (List.getElem_mem hj)
  · obtain ⟨j, hj, es, e | e⟩ := hmem o ho
    · rw [e.1]; simp
    · rw [e.1, List.mem_append, List.mem_singleton, h.flag _ (List.getElem_mem hj)]
      have hne : b.l[j].serial ≠ b.l[i].serial := by
        rcases Nat.lt_or_gt_of_ne e.2 with q | q
        · have := h.ok.rising.get q hi; omega
        · have := h.ok.rising.get q hj; omega
      exact ⟨.inl, fun q => q.resolve_right hne⟩
  · rcases List.mem_append.1 hs with hs | hs
    · exact h.old s hs
    · rw [List.mem_singleton.1 hs]; exact h.ok.next _ (List.getElem_mem hi)
theorem nom_one (f : Int) : nomE f 1 1 = 0 ∧ nomV f 1 1 = f := by
  have := nom_pos (f := f) (w := 1) (m := 1) (by decide) (by rw [Int.mul_one, Int.emod_one]; decide)
  exact ⟨this.2, by rw [this.1, Int.mul_one, Int.ediv_one]⟩
theorem fair_one {raw : Int} (h : raw ≤ 18446744073709551615) : fairE raw 1 = 0 ∧ fairV raw 1 = 0 := by
  have ht : topV 1 = 18446744073709551615 := by decide
  have := fair_pos (raw := raw) (m := 1) (by decide) (by omega)
  exact ⟨this.2, by rw [this.1, Int.emod_one]⟩
/-- An offer that one of one wins is made as long as there is room. -/
theorem make_one {ch : ByteArray} {M : Int} {b : Bk} (h : Ok ch M b) (hM : 0 ≤ M ∧ M ≤ 1000000000) {face raw : Int} {salt : ByteArray} (hf : 0 < face ∧ face ≤ M) (hs : salt.size ≤ 32) (hr : raw ≤ 18446744073709551615) : makeE b face 1 1 salt raw = if 8 ≤ b.l.length then 9 else 0 := by
  unfold makeE
  have h1 : offE face 1 1 salt raw = 0 := by
    unfold offE
    rw [if_neg (by rw [(nom_one face).1]; omega), if_neg (by rw [(nom_one face).1, (fair_one hr).1]; omega)]
  rw [if_pos h1]
  exact room_ok h hM (by omega)

/-! ### LotteryFamily -/
theorem fam_make {ch cl : ByteArray} {k wins many : Int} {r : Nat} {salt : ByteArray} (hc : ch.size = 16) (hs : salt.size ≤ 32) (hm : 1 ≤ many ∧ many ≤ 12) (hw : 0 ≤ wins ∧ wins ≤ many) (hk : 1 ≤ k ∧ k ≤ 1000) (hr : (r : Int) < many) :
    makeE ⟨ch, cl, 1, []⟩ (many * k) wins many salt r = 0 ∧ newO ⟨ch, cl, 1, []⟩ (many * k) wins many salt r = ⟨ch, 1, many * k, wins, many, commitS salt r, salt, r, false⟩ ∧ nomE (many * k) wins many = 0 ∧ nomV (many * k) wins many = k * wins := by
  have hn0 : ¬ 0 < many * k * wins % many := by rw [Int.mul_assoc, Int.mul_emod_right]; decide
  have hn := nom_pos (f := many * k) (w := wins) (m := many) ⟨hm.1, by omega, hw.2⟩ hn0
  have ht : ¬ topV many < (r : Int) := by
    rw [topV_pos ⟨hm.1, by omega⟩]
    have := Int.emod_lt_of_pos 18446744073709551616 (show 0 < many by omega)
    omega
  have hf := fair_pos (raw := (r : Int)) (m := many) ⟨hm.1, by omega⟩ ht
  have hfv : fairV r many = r := by rw [hf.1, Int.emod_eq_of_lt (by omega) hr]
  have hk1 : 1 ≤ many * k := by have := Int.mul_le_mul hm.1 hk.1 (by decide) (by omega); omega
  have hk2 : many * k ≤ 12 * 1000 := Int.mul_le_mul hm.2 hk.2 (by omega) (by decide)
  refine ⟨?_, ?_, hn.2, ?_⟩
  · unfold makeE
    have h1 : offE (many * k) wins many salt r = 0 := by
      unfold offE
      rw [if_neg (by rw [hn.2]; omega), if_neg (by rw [hn.2, hf.2]; omega)]
    rw [if_pos h1]
    show roomE [] (many * k) = 0
    unfold roomE
    rw [if_neg (by decide)]
    show addE 0 (many * k) = 0
    unfold addE
    rw [if_neg (by omega)]
  · unfold newO; rw [hfv]
  · rw [hn.1, Int.mul_assoc, Int.mul_ediv_cancel_left _ (by omega)]
theorem winsB_cnt {r c w m : Int} (hm : 1 ≤ m ∧ m ≤ 4294967296) (hw : w ≤ m) (hr : r < m) : winsB r c w m = decide ((r + c % m) % m < w) := (wins_pos ⟨hm.1, hm.2, hw, hr⟩).1
end Go.Proofs.Ytghomncegjamfaa
