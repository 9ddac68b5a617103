/- The closed facts of law 08 (what 'fixed' asks): a voucher, a token and a ticket that were given by the key "client" and the chain "tokens". No program in sight. -/
import Derived.Test.YtghomncegjamfaaMwor
import Derived.Test.YtghomncegjamfaaMrtb
namespace Go.Proofs.Ytghomncegjamfaa
open Go.RowKit

theorem tkText_size {t : Tk} (h : t.chan.size ≤ 4096) (h2 : t.commit.size ≤ 4096) : (tkText t).size = 45 + t.chan.size + t.commit.size := by
  unfold tkText
  rw [wByte_add (n := 84) ⟨by decide, by decide⟩, wBlob_add (t := t.chan) h, wNum_add, wNum_add, wNum_add, wNum_add, wBlob_add (t := t.commit) h2, wNum_add]
  simp only [wAdd_app]
  rw [wText_add rfl]
  simp only [w0, ByteArray.size_append, putS_size, partS_size', oneB_size]
  show 0 + _ = _
  omega
theorem vouch_size {c : ByteArray} {n : Int} (h : c.size ≤ 4096) : (vouch c n).size = 11 + c.size := by
  unfold vouch
  rw [wByte_add (n := 86) ⟨by decide, by decide⟩, wBlob_add (t := c) h, wNum_add]
  simp only [wAdd_app]
  rw [wText_add rfl]
  simp only [w0, ByteArray.size_append, putS_size, partS_size', oneB_size]
  show 0 + _ = _
  omega
theorem signedB_may {cl : ByteArray} {t : Tk} (h : tkMay t = true) : signedB cl t = verK cl (tkText t) t.sig := by
  obtain ⟨h1, h2, _⟩ := tkMay_iff.mp h
  have := tkText_size (t := t) (by omega) (by omega)
  unfold signedB
  rw [decide_eq_true (p := tkText t ≠ ⟨#[]⟩) (fun e => by rw [e] at this; have e2 : (⟨#[]⟩ : ByteArray).size = 0 := rfl; omega), Bool.true_and]
theorem won_zero {cl : ByteArray} {x : Wn} (h1 : tkMay x.t = true) (h2 : winsE x.drawn x.t.wins x.t.many = 0) (h3 : verK cl (tkText x.t) x.t.sig = true) (h4 : x.t.commit = commitS x.salt x.drawn) (h5 : winsB x.drawn x.t.client x.t.wins x.t.many = true) : wonE cl x = 0 := by
  unfold wonE; rw [if_pos ⟨h1, h2⟩, if_pos (by rw [signedB_may h1]; exact h3), if_pos h4, if_pos h5]
theorem pfErr_more {q : Pf} {s : ByteArray} (hq : pfRight q = true) (hf : q.Fit) (hs : 0 < s.size) : pfErr (pfEnc q ++ s) (0, 0) = 4 := by
  rw [pfEnc_add hq]
  have h := (At.app.mp (At.self (pfBy q ++ s))).1
  have h2 := (rdPf_at hq hf h).2
  unfold pfErr; rw [h2]
  have h3 : endE (pfBy q ++ s) (0 + (pfBy q).size, 0) = 4 := by
    unfold endE; rw [if_pos ⟨rfl, by show 0 + (pfBy q).size < _; rw [ByteArray.size_append]; omega⟩]
  rw [h3]; rfl

def str8Cli : ByteArray := ⟨#[99, 108, 105, 101, 110, 116]⟩
def str8Tks : ByteArray := ⟨#[116, 111, 107, 101, 110, 115]⟩
def str8Ch : ByteArray := ⟨#[48, 49, 50, 51, 52, 53, 54, 55, 56, 57, 97, 98, 99, 100, 101, 102]⟩
def str8S : ByteArray := ⟨#[115]⟩
def str8X : ByteArray := ⟨#[120]⟩
def f8K : ByteArray := rootK str8Cli 1
def f8Sig : ByteArray := signK str8Cli 1 0 (vouch str8Ch 50)
def f8T0 : Tk := ⟨str8Ch, 1, 30, 2, 10, commitS str8S 9, 1, ⟨#[]⟩⟩
def f8Sig1 : ByteArray := signK str8Cli 1 1 (tkText f8T0)
def f8T : Tk := ⟨str8Ch, 1, 30, 2, 10, commitS str8S 9, 1, f8Sig1⟩
def f8W : Wn := ⟨f8T, str8S, 9⟩
def f8Tok : ByteArray := tokS str8Tks 3 2
def f8A : ByteArray := tokS str8Tks 3 0
def f8P : Pf := ⟨50, f8Sig, f8Tok, [f8W]⟩
def f8Tm : Tm := ⟨str8Ch, f8K, f8A, 7, 3⟩
theorem f8_ver0 : verK f8K (vouch str8Ch 50) f8Sig = true := verK_sign str8Cli (h := 1) (i := 0) (by decide) (by decide) (vouch str8Ch 50)
theorem f8_ver1 : verK f8K (tkText f8T) f8Sig1 = true := verK_sign str8Cli (h := 1) (i := 1) (by decide) (by decide) (tkText f8T0)
theorem f8_sigsize : f8Sig.size = 305 := signK_size str8Cli (h := 1) (i := 0) (by decide) _
theorem f8_sigsize1 : f8Sig1.size = 305 := signK_size str8Cli (h := 1) (i := 1) (by decide) _
theorem f8_cnt : cntE f8A f8Tok 3 = 0 ∧ 0 ≤ cntV f8A f8Tok 3 ∧ cntV f8A f8Tok 3 ≤ 2 := by
  have := cnt_tok str8Tks (n := 3) (i := 2) (m := 3) (by decide) (by decide) (by decide)
  exact ⟨this.1, by have := this.2; exact this.1, by have := this.2; exact_mod_cast this.2⟩
theorem f8_toksize : f8Tok.size = 16 := tokS_size str8Tks 3 2
attribute [irreducible] f8K f8Sig f8Sig1 f8A f8Tok
theorem f8_may : tkMay f8T = true := by
  rw [tkMay_iff]
  refine ⟨rfl, commitS_size _ _, ?_⟩
  show f8Sig1.size ≤ 400
  rw [f8_sigsize1]; omega
theorem f8_wn : wnMay f8W = true := by
  rw [wnMay_iff]
  exact ⟨tkMay_iff.mp f8_may, by show str8S.size ≤ 32; decide⟩
theorem f8_won : wonE f8K f8W = 0 :=
  won_zero f8_may (by show winsE 9 2 10 = 0; decide) f8_ver1 rfl (by show winsB 9 1 2 10 = true; decide)
theorem f8_right : pfRight f8P = true := by
  rw [pfRight_iff]
  refine ⟨fun x hx => ?_, by show f8Sig.size ≤ 400; rw [f8_sigsize]; omega, .inr f8_toksize, by show 1 ≤ 3; omega⟩
  have : x = f8W := by simpa [f8P] using hx
  rw [this]; exact f8_wn
theorem f8_paid : paidE f8Tm f8P = 0 := by
  unfold paidE
  rw [if_pos (by show (0 : Int) < 50; decide)]
  exact if_pos f8_ver0
theorem f8_tokne : f8Tok ≠ ⟨#[]⟩ := fun e => by
  have e2 : f8Tok.size = 16 := f8_toksize
  rw [e] at e2; exact absurd e2 (by decide)
theorem f8_tok : tokensE f8Tm f8P = 0 ∧ tokensV f8Tm f8P = cntV f8A f8Tok 3 * 7 := by
  obtain ⟨h1, h2, h3⟩ := f8_cnt
  have hv := val_pos (n := cntV f8A f8Tok 3) (u := 7) (by omega)
  have hm := mul_cases (cntV f8A f8Tok 3) 7
  unfold tokensE tokensV
  have hp : f8P.token = f8Tok := rfl
  have ha : f8Tm.anchor = f8A := rfl
  have hn : f8Tm.tokens = 3 := rfl
  have hu : f8Tm.unit = 7 := rfl
  rw [hp, ha, hn, hu, if_neg f8_tokne, if_pos h1, if_neg f8_tokne, if_pos h1, hv.1, hv.2]
  omega
theorem f8_faces : facesE f8Tm [] [f8W] = 0 := by
  rw [facesE_iff]
  refine ⟨fun x hx => ?_, by simp⟩
  have : x = f8W := by simpa using hx
  rw [this]; exact ⟨rfl, f8_won⟩
theorem f8_parts : (partsA f8Tm f8P).sum = 80 + cntV f8A f8Tok 3 * 7 := by
  rw [partsA_sum, f8_tok.2]
  show (30 + 0 : Int) + (50 + cntV f8A f8Tok 3 * 7) = _
  omega
theorem f8_worth : worthE f8Tm f8P = 0 ∧ worthV f8Tm f8P = 80 + cntV f8A f8Tok 3 * 7 := by
  have h0 : worthE f8Tm f8P = 0 := by
    rw [worth_zero]
    exact ⟨f8_right, f8_paid, f8_tok.1, f8_faces, by rw [f8_parts]; have := f8_cnt.2.2; omega⟩
  exact ⟨h0, by rw [worthV_zero h0, f8_parts]⟩
theorem f8_none : worthE f8Tm pf0 = 0 ∧ worthV f8Tm pf0 = 0 := by
  have h0 : worthE f8Tm pf0 = 0 := by
    rw [worth_zero]
    exact ⟨by decide, rfl, rfl, rfl, by rw [partsA_sum]; show (0 : Int) + (0 + 0) < _; decide⟩
  exact ⟨h0, by rw [worthV_zero h0, partsA_sum]; rfl⟩
theorem f8_sig : worthE f8Tm ⟨51, ⟨#[]⟩, ⟨#[]⟩, []⟩ = 10 := by
  have hv : verK f8Tm.client (vouch f8Tm.chan 51) ⟨#[]⟩ = false := ver_no fun h => absurd h.1 (by decide)
  have hp : paidE f8Tm ⟨51, ⟨#[]⟩, ⟨#[]⟩, []⟩ = 10 := by
    unfold paidE
    rw [if_pos (by show (0 : Int) < 51; decide)]
    show (if verK f8Tm.client (vouch f8Tm.chan 51) ⟨#[]⟩ = true then (0 : Int) else 10) = 10
    rw [hv]; rfl
  unfold worthE
  rw [if_pos (by decide), hp]; rfl
theorem f8_twice : worthE f8Tm ⟨0, ⟨#[]⟩, ⟨#[]⟩, [f8W, f8W]⟩ = 7 := by
  have hr : pfRight ⟨0, ⟨#[]⟩, ⟨#[]⟩, [f8W, f8W]⟩ = true := by
    rw [pfRight_iff]
    refine ⟨fun x hx => ?_, by show (0 : Nat) ≤ 400; omega, .inl rfl, by show 2 ≤ 3; omega⟩
    have : x = f8W := by simpa using hx
    rw [this]; exact f8_wn
  have h1 : faceE1 f8Tm [] f8W = 0 := by
    unfold faceE1; rw [if_pos (show f8W.t.chan = f8Tm.chan from rfl), if_neg (by simp)]; exact f8_won
  have h2 : faceE1 f8Tm [f8W.t.serial] f8W = 7 := by
    unfold faceE1; rw [if_pos (show f8W.t.chan = f8Tm.chan from rfl), if_pos (by simp)]
  have hf : facesE f8Tm [] [f8W, f8W] = 7 := by
    unfold facesE; rw [if_pos h1]
    unfold facesE
    rw [List.nil_append, h2]; rfl
  unfold worthE
  have hp : paidE f8Tm ⟨0, ⟨#[]⟩, ⟨#[]⟩, [f8W, f8W]⟩ = 0 := rfl
  have ht : tokensE f8Tm ⟨0, ⟨#[]⟩, ⟨#[]⟩, [f8W, f8W]⟩ = 0 := rfl
  rw [if_pos hr, hp, if_pos rfl, ht, if_pos rfl]
  show (if facesE f8Tm [] [f8W, f8W] = 0 then _ else facesE f8Tm [] [f8W, f8W]) = 7
  rw [hf]; rfl
theorem f8_x : worthE f8Tm ⟨0, ⟨#[]⟩, str8X, []⟩ = 1 := by
  unfold worthE; rw [if_neg (by decide)]
theorem f8_many : wonE f8K ⟨⟨str8Ch, 1, 30, 2, 0, commitS str8S 9, 1, f8Sig1⟩, str8S, 9⟩ = 1 := by
  unfold wonE; rw [if_neg]
  intro h; exact absurd h.2 (by show winsE 9 2 0 ≠ 0; decide)
theorem f8_fit : f8P.Fit := by
  refine ⟨(⟨by decide, by decide⟩ : fits .u64 50), fun x hx => ?_⟩
  have : x = f8W := by simpa [f8P] using hx
  rw [this]
  exact ⟨⟨(⟨by decide, by decide⟩ : fits .u64 1), (⟨by decide, by decide⟩ : fits .u64 30), (⟨by decide, by decide⟩ : fits .u64 2), (⟨by decide, by decide⟩ : fits .u64 10), (⟨by decide, by decide⟩ : fits .u64 1)⟩, (⟨by decide, by decide⟩ : fits .u64 9)⟩
theorem f8_code : pfErr (pfEnc f8P) (0, 0) = 0 ∧ pfDec (pfEnc f8P) = f8P ∧ pfErr (pfEnc f8P ++ str8X) (0, 0) = 4 :=
  ⟨(pfDec_enc f8_right f8_fit).1, (pfDec_enc f8_right f8_fit).2, pfErr_more f8_right f8_fit (by decide)⟩
theorem f8_len : (vouch str8Ch 1).size = 27 := by rw [vouch_size (by decide)]; rfl
end Go.Proofs.Ytghomncegjamfaa
