/- Plain laws of the lottery's books: what stands in one, what is put into another, what is taken. No program in sight. -/
import Derived.Test.YtghomncegjamfaaGreatMwor
import Derived.Test.YtghomncegjamfaaGreatMrtb
namespace Go.Proofs.YtghomncegjamfaaGreat
open Go.RowKit

theorem tkText_size {t : Tk} (h : t.chan.size ≤ 4096) (h2 : t.commit.size ≤ 4096) : (tkText t).size = 45 + t.chan.size + t.commit.size := by
  unfold tkText
  rw [wByte_add (n := 84) ⟨by decide, by decide⟩, wBlob_add (t := t.chan) h, wNum_add, wNum_add, wNum_add, wNum_add, wBlob_add (t := t.commit) h2, wNum_add]
  simp only [wAdd_app]
  rw [wText_add rfl]
  simp only [w0, ByteArray.size_append, putS_size, partS_size', oneB_size]
  show 0 + _ = _
  omega
theorem vouch_size {c : ByteArray} {n : Int} (h : c.size ≤ 4096) : (vouch c n).size = 11 + c.size := by
  unfold vouch
  rw [wByte_add (n := 86) ⟨by decide, by decide⟩, wBlob_add (t := c) h, wNum_add]
  simp only [wAdd_app]
  rw [wText_add rfl]
  simp only [w0, ByteArray.size_append, putS_size, partS_size', oneB_size]
  show 0 + _ = _
  omega
theorem signedB_may {cl : ByteArray} {t : Tk} (h : tkMay t = true) : signedB cl t = verK cl (tkText t) t.sig := by
  obtain ⟨h1, h2, _⟩ := tkMay_iff.mp h
  have := tkText_size (t := t) (by omega) (by omega)
  unfold signedB
  rw [decide_eq_true (p := tkText t ≠ ⟨#[]⟩) (fun e => by rw [e] at this; have e2 : (⟨#[]⟩ : ByteArray).size = 0 := rfl; omega), Bool.true_and]
theorem won_zero {cl : ByteArray} {x : Wn} (h1 : tkMay x.t = true) (h2 : winsE x.drawn x.t.wins x.t.many = 0) (h3 : verK cl (tkText x.t) x.t.sig = true) (h4 : x.t.commit = commitS x.salt x.drawn) (h5 : winsB x.drawn x.t.client x.t.wins x.t.many = true) : wonE cl x = 0 := by
  unfold wonE; rw [if_pos ⟨h1, h2⟩, if_pos (by rw [signedB_may h1]; exact h3), if_pos h4, if_pos h5]
theorem pfErr_more {q : Pf} {s : ByteArray} (hq : pfRight q = true) (hf : q.Fit) (hs : 0 < s.size) : pfErr (pfEnc q ++ s) (0, 0) = 4 := by
  rw [pfEnc_add hq]
  have h := (At.app.mp (At.self (pfBy q ++ s))).1
  have h2 := (rdPf_at hq hf h).2
  unfold pfErr; rw [h2]
  have h3 : endE (pfBy q ++ s) (0 + (pfBy q).size, 0) = 4 := by
    unfold endE; rw [if_pos ⟨rfl, by show 0 + (pfBy q).size < _; rw [ByteArray.size_append]; omega⟩]
  rw [h3]; rfl

def str8Cli : ByteArray := ⟨#[99, 108, 105, 101, 110, 116]⟩
def str8Tks : ByteArray := ⟨#[116, 111, 107, 101, 110, 115]⟩
def str8Ch : ByteArray := ⟨#[48, 49, 50, 51, 52, 53, 54, 55, 56, 57, 97, 98, 99, 100, 101, 102]⟩
def str8S : ByteArray := ⟨#[115]⟩
def str8X : ByteArray := ⟨#[120]⟩
def f8K : ByteArray := rootK str8Cli 1
def f8Sig : ByteArray := signK str8Cli 1 0 (vouch str8Ch 50)
def f8T0 : Tk := ⟨str8Ch, 1, 30, 2, 10, commitS str8S 9, 1, ⟨#[]⟩⟩
def f8Sig1 : ByteArray := signK str8Cli 1 1 (tkText f8T0)
def f8T : Tk := ⟨str8Ch, 1, 30, 2, 10, commitS str8S 9, 1, f8Sig1⟩
def f8W : Wn := ⟨f8T, str8S, 9⟩
def f8Tok : ByteArray := tokS str8Tks 3 2
def f8A : ByteArray := tokS str8Tks 3 0
def f8P : Pf := ⟨50, f8Sig, f8Tok, [f8W]⟩
def f8Tm : Tm := ⟨str8Ch, f8K, f8A, 7, 3⟩
theorem f8_ver0 : verK f8K (vouch str8Ch 50) f8Sig = true := verK_sign str8Cli (h := 1) (i := 0) (by decide) (by decide) (vouch str8Ch 50)
theorem f8_ver1 : verK f8K (tkText f8T) f8Sig1 = true := verK_sign str8Cli (h := 1) (i := 1) (by decide) (by decide) (tkText f8T0)
theorem f8_sigsize : f8Sig.size = 305 := signK_size str8Cli (h := 1) (i := 0) (by decide) _
theorem f8_sigsize1 : f8Sig1.size = 305 := signK_size str8Cli (h := 1) (i := 1) (by decide) _
theorem f8_cnt : cntE f8A f8Tok 3 = 0 ∧ 0 ≤ cntV f8A f8Tok 3 ∧ cntV f8A f8Tok 3 ≤ 2 := by
  have := cnt_tok str8Tks (n := 3) (i := 2) (m := 3) (by decide) (by decide) (by decide)
  exact ⟨this.1, by have := this.2; exact this.1, by have := this.2; exact_mod_cast this.2⟩
theorem f8_toksize : f8Tok.size = 16 := tokS_size str8Tks 3 2
attribute [irreducible] f8K f8Sig f8Sig1 f8A f8Tok
theorem f8_may : tkMay f8T = true := by
  rw [tkMay_iff]
  refine ⟨rfl, commitS_size _ _, ?_⟩
  show f8Sig1.size ≤ 400
  rw [f8_sigsize1]; omega
theorem f8_wn : wnMay f8W = true := by
  rw [wnMay_iff]
  exact ⟨tkMay_iff.mp f8_may, by show str8S.size ≤ 32; decide⟩
theorem f8_won : wonE f8K f8W = 0 :=
  won_zero f8_may (by show winsE 9 2 10 = 0; decide) f8_ver1 rfl (by show winsB 9 1 2 10 = true; decide)
theorem f8_right : pfRight f8P = true := by
  rw [pfRight_iff]
  refine ⟨fun x hx => ?_, by show f8Sig.size ≤ 400; rw [f8_sigsize]; omega, .inr f8_toksize, by show 1 ≤ 3; omega⟩
  have : x = f8W := by simpa [f8P] using hx
  rw [this]; exact f8_wn
theorem f8_paid : paidE f8Tm f8P = 0 := by
  unfold paidE
  rw [if_pos (by show (0 : Int) < 50; decide)]
  exact if_pos f8_ver0
theorem f8_tokne : f8Tok ≠ ⟨#[]⟩ := fun e => by
  have e2 : f8Tok.size = 16 := f8_toksize
  rw [e] at e2; exact absurd e2 (by decide)
theorem f8_tok : tokensE f8Tm f8P = 0 ∧ tokensV f8Tm f8P = cntV f8A f8Tok 3 * 7 := by
  obtain ⟨h1, h2, h3⟩ := f8_cnt
  have hv := val_pos (n := cntV f8A f8Tok 3) (u := 7) (by omega)
  have hm := mul_cases (cntV f8A f8Tok 3) 7
  unfold tokensE tokensV
  have hp : f8P.token = f8Tok := rfl
  have ha : f8Tm.anchor = f8A := rfl
  have hn : f8Tm.tokens = 3 := rfl
  have hu : f8Tm.unit = 7 := rfl
  rw [hp, ha, hn, hu, if_neg f8_tokne, if_pos h1, if_neg f8_tokne, if_pos h1, hv.1, hv.2]
  omega
theorem f8_faces : facesE f8Tm [] [f8W] = 0 := by
  rw [facesE_iff]
  refine ⟨fun x hx => ?_, by simp⟩
  have : x = f8W := by simpa using hx
  rw [this]; exact ⟨rfl, f8_won⟩
theorem f8_parts : (partsA f8Tm f8P).sum = 80 + cntV f8A f8Tok 3 * 7 := by
  rw [partsA_sum, f8_tok.2]
  show (30 + 0 : Int) + (50 + cntV f8A f8Tok 3 * 7) = _
  omega
theorem f8_worth : worthE f8Tm f8P = 0 ∧ worthV f8Tm f8P = 80 + cntV f8A f8Tok 3 * 7 := by
  have h0 : worthE f8Tm f8P = 0 := by
    rw [worth_zero]
    exact ⟨f8_right, f8_paid, f8_tok.1, f8_faces, by rw [f8_parts]; have := f8_cnt.2.2; omega⟩
  exact ⟨h0, by rw [worthV_zero h0, f8_parts]⟩
theorem f8_none : worthE f8Tm pf0 = 0 ∧ worthV f8Tm pf0 = 0 := by
  have h0 : worthE f8Tm pf0 = 0 := by
    rw [worth_zero]
    exact ⟨by decide, rfl, rfl, rfl, by rw [partsA_sum]; show (0 : Int) + (0 + 0) < _; decide⟩
  exact ⟨h0, by rw [worthV_zero h0, partsA_sum]; rfl⟩
theorem f8_sig : worthE f8Tm ⟨51, ⟨#[]⟩, ⟨#[]⟩, []⟩ = 10 := by
  have hv : verK f8Tm.client (vouch f8Tm.chan 51) ⟨#[]⟩ = false := ver_no fun h => absurd h.1 (by decide)
  have hp : paidE f8Tm ⟨51, ⟨#[]⟩, ⟨#[]⟩, []⟩ = 10 := by
    unfold paidE
    rw [if_pos (by show (0 : Int) < 51; decide)]
    show (if verK f8Tm.client (vouch f8Tm.chan 51) ⟨#[]⟩ = true then (0 : Int) else 10) = 10
    rw [hv]; rfl
  unfold worthE
  rw [if_pos (by decide), hp]; rfl
theorem f8_twice : worthE f8Tm ⟨0, ⟨#[]⟩, ⟨#[]⟩, [f8W, f8W]⟩ = 7 := by
  have hr : pfRight ⟨0, ⟨#[]⟩, ⟨#[]⟩, [f8W, f8W]⟩ = true := by
    rw [pfRight_iff]
    refine ⟨fun x hx => ?_, by show (0 : Nat) ≤ 400; omega, .inl rfl, by show 2 ≤ 3; omega⟩
    have : x = f8W := by simpa using hx
    rw [this]; exact f8_wn
  have h1 : faceE1 f8Tm [] f8W = 0 := by
    unfold faceE1; rw [if_pos (show f8W.t.chan = f8Tm.chan from rfl), if_neg (by simp)]; exact f8_won
  have h2 : faceE1 f8Tm [f8W.t.serial] f8W = 7 := by
    unfold faceE1; rw [if_pos (show f8W.t.chan = f8Tm.chan from rfl), if_pos (by simp)]
  have hf : facesE f8Tm [] [f8W, f8W] = 7 := by
    unfold facesE; rw [if_pos h1]
    unfold facesE
    rw [List.nil_append, h2]; rfl
  unfold worthE
  have hp : paidE f8Tm ⟨0, ⟨#[]⟩, ⟨#[]⟩, [f8W, f8W]⟩ = 0 := rfl
  have ht : tokensE f8Tm ⟨0, ⟨#[]⟩, ⟨#[]⟩, [f8W, f8W]⟩ = 0 := rfl
  rw [if_pos hr, hp, if_pos rfl, ht, if_pos rfl]
  show (if facesE f8Tm [] [f8W, f8W] = 0 then _ else facesE f8Tm [] [f8W, f8W]) = 7
  rw [hf]; rfl
theorem f8_x : worthE f8Tm ⟨0, ⟨#[]⟩, str8X, []⟩ = 1 := by
  unfold worthE; rw [if_neg (by decide)]
theorem f8_many : wonE f8K ⟨⟨str8Ch, 1, 30, 2, 0, commitS str8S 9, 1, f8Sig1⟩, str8S, 9⟩ = 1 := by
  unfold wonE; rw [if_neg]
  intro h; exact absurd h.2 (by show winsE 9 2 0 ≠ 0; decide)
theorem f8_fit : f8P.Fit := by
  refine ⟨(⟨by decide, by decide⟩ : fits .u64 50), fun x hx => ?_⟩
  have : x = f8W := by simpa [f8P] using hx
  rw [this]
  exact ⟨⟨(⟨by decide, by decide⟩ : fits .u64 1), (⟨by decide, by decide⟩ : fits .u64 30), (⟨by decide, by decide⟩ : fits .u64 2), (⟨by decide, by decide⟩ : fits .u64 10), (⟨by decide, by decide⟩ : fits .u64 1)⟩, (⟨by decide, by decide⟩ : fits .u64 9)⟩
theorem f8_code : pfErr (pfEnc f8P) (0, 0) = 0 ∧ pfDec (pfEnc f8P) = f8P ∧ pfErr (pfEnc f8P ++ str8X) (0, 0) = 4 :=
  ⟨(pfDec_enc f8_right f8_fit).1, (pfDec_enc f8_right f8_fit).2, pfErr_more f8_right f8_fit (by decide)⟩
theorem f8_len : (vouch str8Ch 1).size = 27 := by rw [vouch_size (by decide)]; rfl
end Go.Proofs.YtghomncegjamfaaGreat

namespace Go.Proofs.YtghomncegjamfaaGreat
open Go.RowKit

structure Of where
  chan : ByteArray
  serial : Int
  face : Int
  wins : Int
  many : Int
  commit : ByteArray
  salt : ByteArray
  drawn : Int
  taken : Bool
  deriving DecidableEq
abbrev Of.c (o : Of) : List Value := [.string o.chan, .int .u64 o.serial, .int .u64 o.face, .int .u64 o.wins, .int .u64 o.many, .string o.commit, .string o.salt, .int .u64 o.drawn, .bool o.taken]
def of0 : Of := ⟨⟨#[]⟩, 0, 0, 0, 0, ⟨#[]⟩, ⟨#[]⟩, 0, false⟩
structure Of.Fit (o : Of) : Prop where
  serial : fits .u64 o.serial
  face : fits .u64 o.face
  wins : fits .u64 o.wins
  many : fits .u64 o.many
  drawn : fits .u64 o.drawn
/-- A book: its channel, its client, its next serial, its offers. -/
structure Bk where
  chan : ByteArray
  cl : ByteArray
  next : Int
  l : List Of
structure Bk.Fit (b : Bk) : Prop where
  next : fits .u64 b.next
  l : ∀ o ∈ b.l, o.Fit
  low : ∀ o ∈ b.l, o.chan.size ≤ 1000 ∧ o.commit.size ≤ 1000 ∧ o.salt.size ≤ 1000
  len : b.l.length ≤ 8
def openL (l : List Of) : Int := l.foldl (fun n o => if o.taken = true then n else (n + o.face) % 18446744073709551616) 0
theorem openL_take {l : List Of} {i : Nat} (h : i < l.length) : openL (l.take (i + 1)) = if l[i].taken = true then openL (l.take i) else (openL (l.take i) + l[i].face) % 18446744073709551616 := by
  unfold openL
  rw [List.take_succ_eq_append_getElem h, List.foldl_append]
  rfl
def roomE (l : List Of) (face : Int) : Int := if 8 ≤ l.length then 9 else addE (openL l) face
def tkOf (o : Of) (client : Int) : Tk := ⟨o.chan, o.serial, o.face, o.wins, o.many, o.commit, client, ⟨#[]⟩⟩
def shownO (o : Of) : Of := { o with salt := ⟨#[]⟩, drawn := 0, taken := false }
def offE (face wins many : Int) (salt : ByteArray) (raw : Int) : Int :=
  if 32 < salt.size ∨ face = 0 ∨ nomE face wins many = 1 then 1 else if nomE face wins many ≠ 0 ∨ fairE raw many ≠ 0 then 4 else 0
def makeE (b : Bk) (face wins many : Int) (salt : ByteArray) (raw : Int) : Int :=
  if offE face wins many salt raw = 0 then roomE b.l face else offE face wins many salt raw
def newO (b : Bk) (face wins many : Int) (salt : ByteArray) (raw : Int) : Of := ⟨b.chan, b.next, face, wins, many, commitS salt (fairV raw many), salt, fairV raw many, false⟩
def makeO (b : Bk) (face wins many : Int) (salt : ByteArray) (raw : Int) : Of := if makeE b face wins many salt raw = 0 then newO b face wins many salt raw else of0
def makeB (b : Bk) (face wins many : Int) (salt : ByteArray) (raw : Int) : Bk := if makeE b face wins many salt raw = 0 then { b with next := (b.next + 1) % 18446744073709551616, l := b.l ++ [newO b face wins many salt raw] } else b
/-- Where an offer stands. -/
def findL (l : List Of) (s : Int) : Int := idxF (fun o => decide (o.serial = s)) l
def offAt (l : List Of) (i : Int) : Of := l.getD i.toNat of0
def wn0 : Wn := ⟨⟨⟨#[]⟩, 0, 0, 0, 0, ⟨#[]⟩, 0, ⟨#[]⟩⟩, ⟨#[]⟩, 0⟩
def takeE (b : Bk) (t : Tk) : Int :=
  if findL b.l t.serial < 0 then 6 else
  let o := offAt b.l (findL b.l t.serial)
  if t ≠ { tkOf o t.client with sig := t.sig } then 13 else
  if o.taken = true then 7 else
  if signedB b.cl t = true then 0 else 10
def takeO (b : Bk) (t : Tk) : Of := offAt b.l (findL b.l t.serial)
def takeV (b : Bk) (t : Tk) : Int := if takeE b t = 0 then nomV (takeO b t).face (takeO b t).wins (takeO b t).many else 0
def takeW (b : Bk) (t : Tk) : Wn := if takeE b t = 0 then ⟨t, (takeO b t).salt, (takeO b t).drawn⟩ else wn0
def takeI (b : Bk) (t : Tk) : Bool := if takeE b t = 0 then winsB (takeO b t).drawn t.client (takeO b t).wins (takeO b t).many else false
def takeB (b : Bk) (t : Tk) : Bk := if takeE b t = 0 then { b with l := b.l.set (findL b.l t.serial).toNat { takeO b t with taken := true } } else b
def goneE (b : Bk) (s : Int) : Int := if findL b.l s < 0 then 6 else 0
def goneB (b : Bk) (s : Int) : Bk := if findL b.l s < 0 then b else { b with l := b.l.eraseIdx (findL b.l s).toNat }
def mayO (b : Bk) (o : Of) : Bool := decide (o.chan = b.chan ∧ 1 ≤ o.serial ∧ o.serial ≤ 9223372036854775807 ∧ o.salt.size ≤ 32 ∧ 0 < o.face ∧ nomE o.face o.wins o.many = 0 ∧ winsE o.drawn o.wins o.many = 0 ∧ o.commit = commitS o.salt o.drawn)
def putE (b : Bk) (o : Of) : Int :=
  if mayO b o = true then (if 0 ≤ findL b.l o.serial then 7 else roomE b.l (if o.taken = true then 0 else o.face)) else 1
def putB (b : Bk) (o : Of) : Bk := if putE b o = 0 then { b with next := max b.next (o.serial + 1), l := b.l ++ [o] } else b
end Go.Proofs.YtghomncegjamfaaGreat

namespace Go.Proofs.YtghomncegjamfaaGreat
open Go.RowKit

theorem snoc_ind {α : Type} {P : List α → Prop} (h0 : P []) (h1 : ∀ l x, P l → P (l ++ [x])) (l : List α) : P l := by
  have h : ∀ l : List α, P l.reverse := fun l => by
    induction l with
    | nil => exact h0
    | cons x l ih => rw [List.reverse_cons]; exact h1 _ _ ih
  have := h l.reverse
  rwa [List.reverse_reverse] at this
/-! ### What is open -/
/-- The faces of those that were not taken. -/
def freeF (l : List Of) : List Int := (l.filter fun o => !o.taken).map (·.face)
theorem freeF_snoc (l : List Of) (o : Of) : (freeF (l ++ [o])).sum = (freeF l).sum + if o.taken = true then 0 else o.face := by
  unfold freeF
  rw [List.filter_append, List.map_append, List.sum_append]
  cases h : o.taken <;> simp [List.filter_cons, List.filter_nil, h]
theorem openL_snoc (l : List Of) (o : Of) : openL (l ++ [o]) = if o.taken = true then openL l else (openL l + o.face) % 18446744073709551616 := by
  unfold openL; rw [List.foldl_append]; rfl
/-- Faces that are small enough add up without a wrap. -/
theorem openL_sum {M : Int} (hM : 0 ≤ M ∧ M ≤ 1000000000) : ∀ {l : List Of}, (∀ o ∈ l, 0 ≤ o.face ∧ o.face ≤ M) → l.length ≤ 1000 → openL l = (freeF l).sum ∧ 0 ≤ openL l ∧ openL l ≤ M * l.length := by
  intro l
  refine snoc_ind (P := fun l => (∀ o ∈ l, 0 ≤ o.face ∧ o.face ≤ M) → l.length ≤ 1000 → openL l = (freeF l).sum ∧ 0 ≤ openL l ∧ openL l ≤ M * l.length) ?_ ?_ l
  · intro _ _; exact ⟨rfl, Int.le_refl _, by simp [openL]⟩
  · intro l o ih h hl
    rw [List.length_append] at hl
    simp only [List.length_singleton] at hl
    have h1 := ih (fun x hx => h x (List.mem_append_left _ hx)) (by omega)
    have h2 := h o (List.mem_append_right _ (.head _))
    have h3 : M * ((l ++ [o]).length : Int) = M * l.length + M := by
      rw [List.length_append]; simp only [List.length_singleton]
      rw [show ((l.length + 1 : Nat) : Int) = (l.length : Int) + 1 by omega, Int.mul_add, Int.mul_one]
    have h4 : M * (l.length : Int) ≤ 1000000000 * 1000 := Int.mul_le_mul hM.2 (by omega) (by omega) (by omega)
    rw [openL_snoc, freeF_snoc, h3]
    split
    · omega
    · rw [Int.emod_eq_of_lt (by omega) (by omega)]; omega

/-! ### Where an offer stands -/
def Rising (l : List Of) : Prop := l.Pairwise fun a b => a.serial < b.serial
theorem Rising.get {l : List Of} (h : Rising l) {i j : Nat} (hij : i < j) (hj : j < l.length) : (l[i]'(by omega)).serial < l[j].serial := List.pairwise_iff_getElem.1 h i j (by omega) hj hij
theorem find_at {l : List Of} (h : Rising l) {i : Nat} (hi : i < l.length) : findL l l[i].serial = i := by
  unfold findL
  refine idx_hit (k := i) (fun j z hj hz => ?_) (List.getElem?_eq_getElem hi) (by simp)
  obtain ⟨hj2, rfl⟩ := List.getElem?_eq_some_iff.1 hz
  have := h.get hj hi
  exact decide_eq_false (by omega)
theorem find_out {l : List Of} {s : Int} (h : ∀ o ∈ l, o.serial ≠ s) : findL l s = -1 := by
  unfold findL
  refine idx_none fun j z hj hz => ?_
  obtain ⟨hj2, rfl⟩ := List.getElem?_eq_some_iff.1 hz
  exact decide_eq_false (h _ (List.getElem_mem hj2))
theorem find_range (l : List Of) (s : Int) : -1 ≤ findL l s ∧ findL l s < l.length := idx_range _ _
theorem Rising.sub {l m : List Of} (h : Rising l) (hs : m.Sublist l) : Rising m := List.Pairwise.sublist hs h
theorem Rising.snoc {l : List Of} {o : Of} (h : Rising l) (ho : ∀ x ∈ l, x.serial < o.serial) : Rising (l ++ [o]) := by
  unfold Rising
  rw [List.pairwise_append]
  exact ⟨h, List.pairwise_singleton _ _, fun a ha b hb => by rw [List.mem_singleton.1 hb]; exact ho a ha⟩
theorem off_at {l : List Of} {i : Nat} (hi : i < l.length) : offAt l i = l[i] := by
  unfold offAt
  rw [Int.toNat_natCast, List.getD_eq_getElem?_getD, List.getElem?_eq_getElem hi]; rfl

/-! ### LotteryPuts: what is told, put into a new book -/
def strCh : ByteArray := ⟨#[99, 99, 99, 99, 99, 99, 99, 99, 99, 99, 99, 99, 99, 99, 99, 99]⟩
def strSalt : ByteArray := ⟨#[115, 97, 108, 116]⟩
/-- An offer as such a book has them. -/
structure Good (ch : ByteArray) (M : Int) (o : Of) : Prop where
  chan : o.chan = ch
  low : 1 ≤ o.serial
  high : o.serial ≤ 9223372036854775807
  face : 0 < o.face ∧ o.face ≤ M
  salt : o.salt.size ≤ 32
  nom : nomE o.face o.wins o.many = 0
  wins : winsE o.drawn o.wins o.many = 0
  com : o.commit = commitS o.salt o.drawn
theorem Good.may {ch : ByteArray} {M : Int} {o : Of} {b : Bk} (h : Good ch M o) (hb : b.chan = ch) : mayO b o = true := decide_eq_true ⟨h.chan.trans hb.symm, h.low, h.high, h.salt, h.face.1, h.nom, h.wins, h.com⟩
structure Ok (ch : ByteArray) (M : Int) (b : Bk) : Prop where
  chan : b.chan = ch
  rising : Rising b.l
  good : ∀ o ∈ b.l, Good ch M o
  next : ∀ o ∈ b.l, o.serial < b.next
  one : 1 ≤ b.next
  len : b.l.length ≤ 8
theorem ok_new (ch cl : ByteArray) (M : Int) : Ok ch M ⟨ch, cl, 1, []⟩ := ⟨rfl, List.Pairwise.nil, fun o ho => (by cases ho), fun o ho => (by cases ho), Int.le_refl _, by simp⟩
theorem Ok.open_ {ch : ByteArray} {M : Int} {b : Bk} (h : Ok ch M b) (hM : 0 ≤ M ∧ M ≤ 1000000000) : openL b.l = (freeF b.l).sum ∧ 0 ≤ openL b.l ∧ openL b.l ≤ M * 8 := by
  have h1 := openL_sum hM (l := b.l) (fun o ho => by have := (h.good o ho).face; omega) (by have := h.len; omega)
  have h2 : M * (b.l.length : Int) ≤ M * 8 := Int.mul_le_mul_of_nonneg_left (by have := h.len; omega) hM.1
  omega
theorem room_ok {ch : ByteArray} {M face : Int} {b : Bk} (h : Ok ch M b) (hM : 0 ≤ M ∧ M ≤ 1000000000) (hf : 0 ≤ face ∧ face ≤ M) : roomE b.l face = if 8 ≤ b.l.length then 9 else 0 := by
  unfold roomE
  split
  · rfl
  · have := (h.open_ hM).2
    unfold addE
    rw [if_neg (by omega)]
theorem Ok.gone {ch : ByteArray} {M : Int} {b : Bk} (h : Ok ch M b) (s : Int) : Ok ch M (goneB b s) := by
  unfold goneB
  split
  · exact h
  · have hs : (b.l.eraseIdx (findL b.l s).toNat).Sublist b.l := List.eraseIdx_sublist _ _
    refine ⟨h.chan, h.rising.sub hs, fun o ho => h.good o (hs.subset ho), fun o ho => h.next o (hs.subset ho), h.one, ?_⟩
    have := hs.length_le
    have := h.len
    show (b.l.eraseIdx _).length ≤ 8
    omega
theorem fairV_win {raw many wins : Int} (h : fairE raw many = 0) (hm : 1 ≤ many) (hw : wins ≤ many) : winsE (fairV raw many) wins many = 0 := by
  by_cases h1 : 1 ≤ many ∧ many ≤ 4294967296
  · by_cases h2 : topV many < raw
    · rw [(fair_high h1 h2).2] at h; exact absurd h (by decide)
    · rw [(fair_pos h1 h2).1]
      have := Int.emod_lt_of_pos raw (show 0 < many by omega)
      unfold winsE; rw [if_pos ⟨h1.1, h1.2, hw, this⟩]
  · rw [(fair_neg h1).2] at h; exact absurd h (by decide)
theorem makeE_zero {b : Bk} {face wins many raw : Int} {salt : ByteArray} (h : makeE b face wins many salt raw = 0) : salt.size ≤ 32 ∧ face ≠ 0 ∧ nomE face wins many = 0 ∧ fairE raw many = 0 ∧ roomE b.l face = 0 := by
  unfold makeE at h
  by_cases h1 : offE face wins many salt raw = 0
  · rw [if_pos h1] at h
    unfold offE at h1
    split at h1
    · exact absurd h1 (by decide)
    · split at h1
      · exact absurd h1 (by decide)
      · rename_i h2 h3
        refine ⟨by omega, fun e => h2 (.inr (.inl e)), ?_, ?_, h⟩
        · exact Decidable.not_not.1 fun e => h3 (.inl e)
        · exact Decidable.not_not.1 fun e => h3 (.inr e)
  · rw [if_neg h1] at h; exact absurd h h1
theorem Ok.make {ch : ByteArray} {M : Int} {b : Bk} (h : Ok ch M b) {face wins many raw : Int} {salt : ByteArray} (hf : 0 ≤ face ∧ face ≤ M) (hm : 1 ≤ many ∧ wins ≤ many) (hn : b.next < 9223372036854775807) : Ok ch M (makeB b face wins many salt raw) := by
  by_cases hz : makeE b face wins many salt raw = 0
  · have e : makeB b face wins many salt raw = ⟨b.chan, b.cl, (b.next + 1) % 18446744073709551616, b.l ++ [newO b face wins many salt raw]⟩ := by unfold makeB; rw [if_pos hz]
    have h1 := h.one
    obtain ⟨m1, m2, m3, m4, m5⟩ := makeE_zero hz
    rw [e]
    have hl : b.l.length < 8 := by
      unfold roomE at m5
      split at m5
      · exact absurd m5 (by decide)
      · omega
    refine ⟨h.chan, h.rising.snoc h.next, fun o ho => ?_, fun o ho => ?_, by show 1 ≤ (b.next + 1) % 18446744073709551616; omega, by rw [List.length_append]; simp only [List.length_singleton]; omega⟩
    · rcases List.mem_append.1 ho with ho | ho
      · exact h.good o ho
      · rw [List.mem_singleton.1 ho]
        exact ⟨h.chan, h1, by show b.next ≤ _; omega, by show 0 < face ∧ face ≤ M; omega, m1, m3, fairV_win m4 hm.1 hm.2, rfl⟩
    · show o.serial < (b.next + 1) % 18446744073709551616
      rcases List.mem_append.1 ho with ho | ho
      · have := h.next o ho; omega
      · rw [List.mem_singleton.1 ho]; show b.next < _; omega
  · have e : makeB b face wins many salt raw = b := by unfold makeB; rw [if_neg hz]
    rw [e]; exact h
theorem make_next {b : Bk} {face wins many raw : Int} {salt : ByteArray} (h1 : 1 ≤ b.next) (hn : b.next < 9223372036854775807) : (makeB b face wins many salt raw).next ≤ b.next + 1 := by
  unfold makeB
  split
  · show (b.next + 1) % 18446744073709551616 ≤ _; omega
  · omega
theorem gone_next (b : Bk) (s : Int) : (goneB b s).next = b.next := by unfold goneB; split <;> rfl
/-- The next serial of a book that has the first ones. -/
def nxt (l : List Of) : Nat → Int
  | 0 => 1
  | j + 1 => (l.getD j of0).serial + 1
theorem nxt_le {ch : ByteArray} {M : Int} {b : Bk} (h : Ok ch M b) {j : Nat} (hj : j < b.l.length) : nxt b.l j ≤ b.l[j].serial := by
  cases j with
  | zero => have := (h.good _ (List.getElem_mem hj)).low; show (1 : Int) ≤ _; omega
  | succ j =>
    have h9 := h.rising.get (Nat.lt_succ_self j) hj
    show (b.l.getD j of0).serial + 1 ≤ _
    rw [List.getD_eq_getElem?_getD, List.getElem?_eq_getElem (by omega)]
    exact h9
theorem take_ok {ch : ByteArray} {M : Int} {b : Bk} (h : Ok ch M b) (cl : ByteArray) {j : Nat} (hj : j ≤ b.l.length) : Ok ch M ⟨ch, cl, nxt b.l j, b.l.take j⟩ := by
  have hs : (b.l.take j).Sublist b.l := List.take_sublist _ _
  refine ⟨rfl, h.rising.sub hs, fun o ho => h.good o (hs.subset ho), fun o ho => ?_, ?_, by have := h.len; show (b.l.take j).length ≤ 8; rw [List.length_take]; omega⟩
  · obtain ⟨i, hi, rfl⟩ := List.mem_iff_getElem.1 ho
    rw [List.length_take] at hi
    rw [List.getElem_take]
    cases j with
    | zero => omega
    | succ j =>
      show _ < (b.l.getD j of0).serial + 1
      rw [List.getD_eq_getElem?_getD, List.getElem?_eq_getElem (by omega)]
      show _ < (b.l[j]'(by omega)).serial + 1
      rcases Nat.lt_or_ge i j with h2 | h2
      · have := h.rising.get h2 (show j < b.l.length by omega); omega
      · have e : i = j := by omega
        subst e; omega
  · cases j with
    | zero => exact Int.le_refl _
    | succ j =>
      show 1 ≤ (b.l.getD j of0).serial + 1
      rw [List.getD_eq_getElem?_getD, List.getElem?_eq_getElem (by omega)]
      have := (h.good (b.l[j]'(by omega)) (List.getElem_mem _)).low
      show 1 ≤ (b.l[j]'(by omega)).serial + 1
      omega
/-- What is told, put into a new book: it is taken, once. -/
theorem put_step {ch : ByteArray} {M : Int} {b : Bk} (h : Ok ch M b) (hM : 0 ≤ M ∧ M ≤ 1000000000) (cl : ByteArray) {j : Nat} (hj : j < b.l.length) :
    putE ⟨ch, cl, nxt b.l j, b.l.take j⟩ b.l[j] = 0 ∧ putB ⟨ch, cl, nxt b.l j, b.l.take j⟩ b.l[j] = ⟨ch, cl, nxt b.l (j + 1), b.l.take (j + 1)⟩ ∧ putE ⟨ch, cl, nxt b.l (j + 1), b.l.take (j + 1)⟩ b.l[j] = 7 := by
  have hg := h.good _ (List.getElem_mem hj)
  have hlen := h.len
  have hout : findL (b.l.take j) b.l[j].serial = -1 := find_out fun o ho => by
    obtain ⟨i, hi, rfl⟩ := List.mem_iff_getElem.1 ho
    rw [List.length_take] at hi
    rw [List.getElem_take]
    have := h.rising.get (show i < j by omega) hj
    omega
  have hr : ∀ f : Int, 0 ≤ f ∧ f ≤ M → roomE (b.l.take j) f = 0 := fun f hf => by
    have := room_ok (take_ok h cl (Nat.le_of_lt hj)) hM hf
    rw [this, if_neg (by show ¬ 8 ≤ (b.l.take j).length; rw [List.length_take]; omega)]
  have e0 : putE ⟨ch, cl, nxt b.l j, b.l.take j⟩ b.l[j] = 0 := by
    unfold putE
    rw [if_pos (hg.may rfl)]
    show (if 0 ≤ findL (b.l.take j) b.l[j].serial then (7 : Int) else roomE (b.l.take j) _) = 0
    rw [hout, if_neg (by decide)]
    exact hr _ (by have := hg.face; split <;> omega)
  refine ⟨e0, ?_, ?_⟩
  · unfold putB
    rw [if_pos e0]
    have h1 := nxt_le h hj
    have h2 : nxt b.l (j + 1) = b.l[j].serial + 1 := by
      show (b.l.getD j of0).serial + 1 = _
      rw [List.getD_eq_getElem?_getD, List.getElem?_eq_getElem hj]; rfl
    rw [h2, List.take_succ_eq_append_getElem hj]
    show Bk.mk ch cl (max (nxt b.l j) (b.l[j].serial + 1)) _ = _
    rw [show max (nxt b.l j) (b.l[j].serial + 1) = b.l[j].serial + 1 by omega]
  · unfold putE
    rw [if_pos (hg.may rfl)]
    show (if 0 ≤ findL (b.l.take (j + 1)) b.l[j].serial then (7 : Int) else _) = 7
    have hat : findL (b.l.take (j + 1)) b.l[j].serial = j := by
      have h3 := find_at (h.rising.sub (List.take_sublist (j + 1) b.l)) (i := j) (by rw [List.length_take]; omega)
      rwa [List.getElem_take] at h3
    rw [hat, if_pos (by omega)]
end Go.Proofs.YtghomncegjamfaaGreat
