/- Plain laws of chapter 08: other terms (NoteAlone), what a client that signs gives (NotePaid). No program in sight. -/
import Derived.Test.YtddpoigfliaklaaMwos
namespace Go.Proofs.Ytddpoigfliaklaa
open Go.RowKit

theorem facesE_terms {t u : Tm} (hc : u.chan = t.chan) (hk : u.client = t.client) : ∀ (l : List Wn) (seen : List Int), facesE u seen l = facesE t seen l
  | [], _ => rfl
  | x :: r, seen => by
    unfold facesE
    have h1 : faceE1 u seen x = faceE1 t seen x := by unfold faceE1; rw [hc, hk]
    rw [h1, facesE_terms hc hk r]
/-- a proof without a token asks only for the channel and the client -/
theorem worth_alone {t u : Tm} {p : Pf} (hc : u.chan = t.chan) (hk : u.client = t.client) (hp : p.token = ⟨#[]⟩) : worthE u p = worthE t p ∧ worthV u p = worthV t p := by
  have h1 : paidE u p = paidE t p := by unfold paidE; rw [hc, hk]
  have h2 : tokensE u p = tokensE t p := by unfold tokensE; rw [if_pos hp, if_pos hp]
  have h3 : tokensV u p = tokensV t p := by unfold tokensV; rw [if_pos hp, if_pos hp]
  have h4 : partsA u p = partsA t p := by unfold partsA; rw [h3]
  have h5 : worthE u p = worthE t p := by unfold worthE; rw [h1, h2, h4, facesE_terms hc hk]
  exact ⟨h5, by unfold worthV; rw [h5, h4]⟩
/-- a win of another channel -/
theorem worth_other {t : Tm} {x : Wn} (h : x.t.chan ≠ t.chan) : worthE t ⟨0, ⟨#[]⟩, ⟨#[]⟩, [x]⟩ = 13 ∨ worthE t ⟨0, ⟨#[]⟩, ⟨#[]⟩, [x]⟩ = 1 := by
  have hp : paidE t ⟨0, ⟨#[]⟩, ⟨#[]⟩, [x]⟩ = 0 := rfl
  have ht : tokensE t ⟨0, ⟨#[]⟩, ⟨#[]⟩, [x]⟩ = 0 := rfl
  have hf : facesE t [] [x] = 13 := by
    have h1 : faceE1 t [] x = 13 := by unfold faceE1; rw [if_neg h]
    unfold facesE; rw [h1]; rfl
  unfold worthE
  by_cases hr : pfRight ⟨0, ⟨#[]⟩, ⟨#[]⟩, [x]⟩ = true
  · rw [if_pos hr, hp, if_pos rfl, ht, if_pos rfl]
    show (if facesE t [] [x] = 0 then _ else facesE t [] [x]) = 13 ∨ _
    rw [hf]; exact .inl rfl
  · rw [if_neg hr]; exact .inr rfl
theorem worth_bad {t : Tm} {p : Pf} (h : worthE t p ≠ 0) : worthV t p = 0 := by unfold worthV; rw [if_neg h]
/-- a ticket that the client signs -/
def giv (seed ch salt : ByteArray) (i : Nat) (serial face wins many client drawn : Int) : Wn :=
  ⟨⟨ch, serial, face, wins, many, commitS salt drawn, client, signK seed 2 i (tkText ⟨ch, serial, face, wins, many, commitS salt drawn, client, ⟨#[]⟩⟩)⟩, salt, drawn⟩
theorem giv_may (seed salt : ByteArray) {ch : ByteArray} {i : Nat} (hi : i < 4) (hc : ch.size = 16) (hs : salt.size ≤ 32) (serial face wins many client drawn : Int) : wnMay (giv seed ch salt i serial face wins many client drawn) = true := by
  rw [wnMay_iff]
  refine ⟨⟨hc, commitS_size _ _, ?_⟩, hs⟩
  show (signK seed 2 i _).size ≤ 400
  rw [signK_size (h := 2) seed (by omega)]; omega
theorem giv_won (seed salt : ByteArray) {ch : ByteArray} {i : Nat} (hi : i < 4) (hc : ch.size = 16) (hs : salt.size ≤ 32) {serial face wins many client drawn : Int} (h : winsE drawn wins many = 0) :
    wonE (rootK seed 2) (giv seed ch salt i serial face wins many client drawn) = if winsB drawn client wins many = true then 0 else 13 := by
  have hm := (wnMay_iff.mp (giv_may seed salt hi hc hs serial face wins many client drawn)).1
  have hv : signedB (rootK seed 2) (giv seed ch salt i serial face wins many client drawn).t = true := by
    rw [signedB_may (tkMay_iff.mpr hm)]
    exact verK_sign seed (h := 2) (i := i) (by decide) (by omega) (tkText ⟨ch, serial, face, wins, many, commitS salt drawn, client, ⟨#[]⟩⟩)
  have h1 : tkMay (giv seed ch salt i serial face wins many client drawn).t = true ∧ winsE (giv seed ch salt i serial face wins many client drawn).drawn (giv seed ch salt i serial face wins many client drawn).t.wins (giv seed ch salt i serial face wins many client drawn).t.many = 0 := ⟨tkMay_iff.mpr hm, h⟩
  unfold wonE
  rw [if_pos h1, if_pos hv, if_pos (show (giv seed ch salt i serial face wins many client drawn).t.commit = commitS (giv seed ch salt i serial face wins many client drawn).salt (giv seed ch salt i serial face wins many client drawn).drawn from rfl)]
  rfl
/-- what was given is worth its parts -/
theorem given {t : Tm} {p : Pf} {seed : ByteArray} {a : Int} (hk : t.client = rootK seed 2) (ha : 0 < a) (hp : p.amount = a) (hs : p.sig = signK seed 2 0 (vouch t.chan a)) (hw : ∀ x ∈ p.wins, wnMay x = true) (hl : p.wins.length ≤ 3)
    (hT : p.token = ⟨#[]⟩ ∨ p.token.size = 16) (ht : tokensE t p = 0) (hf : facesE t [] p.wins = 0) (hb : (partsA t p).sum < 18446744073709551616) : worthE t p = 0 ∧ worthV t p = (p.wins.map (·.t.face)).sum + (a + tokensV t p) := by
  have h0 : worthE t p = 0 := by
    rw [worth_zero]
    refine ⟨?_, ?_, ht, hf, hb⟩
    · rw [pfRight_iff]
      refine ⟨hw, ?_, hT.imp (fun e => by rw [e]; rfl) id, hl⟩
      rw [hs, signK_size (h := 2) seed (by decide)]; omega
    · unfold paidE
      rw [hp, if_pos ha, hk, hs]
      exact if_pos (verK_sign seed (h := 2) (i := 0) (by decide) (by decide) (vouch t.chan a))
  exact ⟨h0, by rw [worthV_zero h0, partsA_sum, hp]⟩
theorem tokensV_nonneg {t : Tm} (p : Pf) (hu : 0 ≤ t.unit) : 0 ≤ tokensV t p := by
  unfold tokensV
  split
  · exact Int.le_refl _
  · split
    · exact (valV_fits hu).1
    · exact Int.le_refl _
theorem tokens_most {t : Tm} {p : Pf} (hu : 0 ≤ t.unit) (hz : tokensE t p = 0) (hv : valE t.tokens t.unit = 0) (hp : p.token ≠ ⟨#[]⟩) : tokensV t p ≤ valV t.tokens t.unit := by
  unfold tokensE at hz
  rw [if_neg hp] at hz
  by_cases hc : cntE t.anchor p.token t.tokens = 0
  · rw [if_pos hc] at hz
    have hk : cntOk t.anchor p.token t.tokens := by
      by_cases e : cntOk t.anchor p.token t.tokens
      · exact e
      · have := (cnt_bad e).2; omega
    have hr := cntV_range t.anchor p.token t.tokens hk.2.2.1
    unfold tokensV
    rw [if_neg hp, if_pos hc]
    have h1 := val_pos (n := cntV t.anchor p.token t.tokens) (u := t.unit) (by omega)
    have h2 := val_pos (n := t.tokens) (u := t.unit) (by omega)
    rw [h1.1, h2.1]
    rw [h1.2] at hz
    rw [h2.2] at hv
    have m : cntV t.anchor p.token t.tokens * t.unit ≤ t.tokens * t.unit := Int.mul_le_mul_of_nonneg_right hr.2.1 hu
    rcases mul_cases (cntV t.anchor p.token t.tokens) t.unit with c | c <;> rcases mul_cases t.tokens t.unit with d | d <;> omega
  · rw [if_neg hc] at hz; exact absurd hz hc
/-- what a proof is worth, its voucher, its faces and its tokens (NoteSums) -/
theorem worth_sums {t : Tm} {p : Pf} (h : worthE t p = 0) (hu : 0 ≤ t.unit) (hf : ∀ x ∈ p.wins, 0 ≤ x.t.face) :
    sumE (p.amount :: p.wins.reverse.map (·.t.face)) = 0 ∧ worthV t p = sumA (p.amount :: p.wins.reverse.map (·.t.face)) + tokensV t p ∧ p.amount ≤ worthV t p ∧ 0 ≤ tokensV t p := by
  obtain ⟨h1, h2, h3, h4, h5⟩ := worth_zero.mp h
  have hs : (p.amount :: p.wins.reverse.map (·.t.face)).sum = p.amount + (p.wins.map (·.t.face)).sum := by
    rw [List.sum_cons, List.map_reverse, sum_reverse]
  have hn := tokensV_nonneg p hu
  have hp := partsA_sum t p
  have hF : 0 ≤ (p.wins.map (·.t.face)).sum := sum_nonneg fun n hn => by
    obtain ⟨x, hx, e⟩ := List.mem_map.1 hn
    rw [← e]; exact hf x hx
  rw [worthV_zero h]
  unfold sumE sumA
  rw [hs, if_neg (by omega), if_neg (by omega)]
  exact ⟨rfl, by omega, by omega, hn⟩
end Go.Proofs.Ytddpoigfliaklaa
