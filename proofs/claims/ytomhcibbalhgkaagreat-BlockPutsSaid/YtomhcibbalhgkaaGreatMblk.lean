/- Plain law of blocks: what one is, how it is written and read. No program in sight. -/
import Derived.Test.YtomhcibbalhgkaaGreatMrtc
namespace Go.Proofs.YtomhcibbalhgkaaGreat
open Go.RowKit

structure Blk where
  height : Int
  prev : ByteArray
  txs : List Trx
  deriving DecidableEq
def bk0 : Blk := ⟨0, ⟨#[]⟩, []⟩
def bkRight (b : Blk) : Bool := decide (1 ≤ b.height ∧ b.height ≤ 4294967295 ∧ b.prev.size = 16 ∧ b.txs.length ≤ 8 ∧ ∀ t ∈ b.txs, txRight t = true)
theorem bkRight_iff {b : Blk} : bkRight b = true ↔ 1 ≤ b.height ∧ b.height ≤ 4294967295 ∧ b.prev.size = 16 ∧ b.txs.length ≤ 8 ∧ ∀ t ∈ b.txs, txRight t = true := decide_eq_true_iff
def bkPut (b : Blk) : WS := b.txs.foldl (fun w t => wBlob w (txEnc t)) (wByte (wHash (wNum (wByte w0 66) b.height) b.prev) b.txs.length)
def bkEnc (b : Blk) : ByteArray := if bkRight b = true then wText (bkPut b) else ⟨#[]⟩
def bkBy (b : Blk) : ByteArray := oneB 66 ++ (putS b.height ++ (b.prev ++ (oneB b.txs.length ++ catB (b.txs.map fun t => partS (txEnc t)))))
theorem wnBy_516 {x : Wn} (h : wnMay x = true) : (wnBy x).size ≤ 516 := by
  obtain ⟨⟨h1, h2, h3⟩, h4⟩ := wnMay_iff.1 h
  unfold wnBy
  simp only [ByteArray.size_append, putS_size, partS_size']
  omega
theorem pfBy_1977 {p : Pf} (h : pfRight p = true) : (pfBy p).size ≤ 1977 := by
  obtain ⟨h1, h2, h3, h4⟩ := pfRight_iff.1 h
  have h5 := cat_size (f := wnBy) (n := 516) (l := p.wins) fun x hx => wnBy_516 (h1 x hx)
  unfold pfBy
  simp only [ByteArray.size_append, putS_size, partS_size', oneB_size]
  omega
theorem ouBy_81 {o : Oup} (h : ouFits o = true) : (ouBy o).size ≤ 81 := by
  obtain ⟨h1, h2, h3, h4⟩ := ouFits_iff.1 h
  unfold ouBy
  rcases h3 with h3 | ⟨h3, h5, h6, h7⟩ | ⟨h3, h5, h6⟩
  · rw [if_pos h3]
    simp only [ByteArray.size_append, putS_size, oneB_size]; omega
  · have n1 : ¬ o.kind = 1 := by omega
    have n3 : ¬ o.kind = 3 := by omega
    rw [if_neg n1, if_neg n3]
    have := h5.1
    simp only [ByteArray.size_append, putS_size, oneB_size]; omega
  · have n1 : ¬ o.kind = 1 := by omega
    rw [if_neg n1, if_pos h3]
    have := h5.1
    simp only [ByteArray.size_append, putS_size, oneB_size]; omega
/-- a transaction's bytes find room in a part -/
theorem txEnc_room {t : Trx} (h : txRight t = true) : (txEnc t).size ≤ 4096 := by
  rw [txEnc_eq h]
  obtain ⟨h1, _, h3, h4, h5, h6⟩ := txRight_iff.1 h
  have a := cat_size (f := inBy) (n := 18) (l := t.ins) fun x hx => Nat.le_of_eq (inBy_size (h1 x hx))
  have b := cat_size (f := ouBy) (n := 81) (l := t.outs) fun x hx => ouBy_81 (h5 x hx)
  have c := cat_size (f := sgBy) (n := 402) (l := t.ins) fun x hx => by
    have := (inFits_iff.1 (h1 x hx)).2.2.2
    unfold sgBy; rw [partS_size']; omega
  have d := pfBy_1977 h6
  unfold txBy coBy
  simp only [ByteArray.size_append, partS_size', oneB_size]
  omega
theorem bkEnc_eq {b : Blk} (h : bkRight b = true) : bkEnc b = bkBy b := by
  obtain ⟨h1, h2, h3, h4, h5⟩ := bkRight_iff.1 h
  unfold bkEnc bkPut
  rw [if_pos h, wByte_add (n := 66) ⟨by decide, by decide⟩, wNum_add, wHash_add h3, wByte_add (n := (b.txs.length : Int)) ⟨by omega, by omega⟩, wFold_add (g := fun t => partS (txEnc t)) (fun w x hx => wBlob_add (txEnc_room (h5 x hx)))]
  simp only [wAdd_app]
  rw [wText_add rfl]
  show (⟨#[]⟩ : ByteArray) ++ _ = _
  rw [nilB]
  simp only [bkBy, ByteArray.append_assoc]
theorem bkEnc_ne {b : Blk} (h : bkRight b = true) : bkEnc b ≠ ⟨#[]⟩ := by
  rw [bkEnc_eq h]; intro e
  have := congrArg ByteArray.size e
  unfold bkBy at this
  rw [ByteArray.size_append, oneB_size] at this
  have h0 : (⟨#[]⟩ : ByteArray).size = 0 := rfl
  omega

def bkS (S : ByteArray) : RS := if S = ⟨#[]⟩ then (0, 0) else byS S (0, 0)
def bkB (S : ByteArray) : RS := nuS S (bkS S)
def bkC (S : ByteArray) : RS := haS S (bkB S)
def bkN (S : ByteArray) : Int := byV S (bkC S)
def bkD (S : ByteArray) : RS := byS S (bkC S)
def bkE (S : ByteArray) : RS := if 8 < bkN S then flS (bkD S) 4 else bkD S
def bkK (S : ByteArray) : Nat := (min (bkN S) 8).toNat
def rdBl (S : ByteArray) (x : RS) : ByteArray × RS := (blV S x 4096, blS S x 4096)
def bkL (S : ByteArray) : List ByteArray × RS := rdMany (rdBl S) (bkE S) (bkK S)
def intV (n : Int) : Int := if 9223372036854775807 < n then 0 else n
def firstE : List ByteArray → Int
  | [] => 0
  | x :: r => if txErr x = 0 then firstE r else txErr x
def rdBk (S : ByteArray) : Blk := ⟨intV (nuV S (bkS S)), haV S (bkB S), (bkL S).1.map txDec⟩
def bkErr (S : ByteArray) : Int :=
  if S ≠ ⟨#[]⟩ ∧ byV S (0, 0) ≠ 66 then 4
  else if (endE S (bkL S).2 ≠ 0 ∧ endE S (bkL S).2 ≠ 4) ∨ 8 < bkN S then endE S (bkL S).2
  else if firstE (bkL S).1 = 0 then
    if 9223372036854775807 < nuV S (bkS S) ∨ (bkL S).2.1 < S.size ∨ bkRight (rdBk S) ≠ true then 4 else 0
  else firstE (bkL S).1
def bkDec (S : ByteArray) : Blk := if bkErr S = 0 then rdBk S else bk0
theorem firstE_enc : ∀ {l : List Trx}, (∀ t ∈ l, txRight t = true ∧ t.Fit) → firstE (l.map txEnc) = 0 ∧ (l.map txEnc).map txDec = l
  | [], _ => ⟨rfl, rfl⟩
  | t :: l, h => by
    have h1 := dec_enc (h t (.head _)).1 (h t (.head _)).2
    have h2 := firstE_enc (l := l) fun u hu => h u (.tail _ hu)
    constructor
    · show (if txErr (txEnc t) = 0 then firstE (l.map txEnc) else txErr (txEnc t)) = 0
      rw [if_pos h1.1]; exact h2.1
    · show txDec (txEnc t) :: (l.map txEnc).map txDec = _
      rw [h1.2, h2.2]
/-- what is read of bytes that begin with a block's -/
theorem bk_at {S : ByteArray} {b : Blk} (h : bkRight b = true) (hf : ∀ t ∈ b.txs, t.Fit) (hA : At S 0 (bkBy b)) : S ≠ ⟨#[]⟩ ∧ byV S (0, 0) = 66 ∧ nuV S (bkS S) = b.height ∧ bkN S = b.txs.length ∧ bkL S = (b.txs.map txEnc, ((bkBy b).size, 0)) ∧ rdBk S = b := by
  obtain ⟨h1, h2, h3, h4, h5⟩ := bkRight_iff.1 h
  have hle := hA.le
  unfold bkBy at hA
  obtain ⟨a1, hA⟩ := At.app.1 hA
  obtain ⟨a2, hA⟩ := At.app.1 hA
  obtain ⟨a3, hA⟩ := At.app.1 hA
  obtain ⟨a4, a5⟩ := At.app.1 hA
  simp only [oneB_size, putS_size, h3] at a2 a3 a4 a5
  have hne : S ≠ ⟨#[]⟩ := fun e => by
    have := a1.le; rw [e, oneB_size] at this
    have h0 : (⟨#[]⟩ : ByteArray).size = 0 := rfl
    omega
  have b1 := by_at a1 ⟨by decide, by decide⟩
  have s1 : bkS S = (0 + 1, 0) := by unfold bkS; rw [if_neg hne]; exact b1.2
  have b2 := nu_at a2 ⟨by omega, by omega⟩
  have s2 : bkB S = (0 + 1 + 8, 0) := by unfold bkB; rw [s1]; exact b2.2
  have b3 := ha_at a3 h3
  have s3 : bkC S = (0 + 1 + 8 + 16, 0) := by unfold bkC; rw [s2]; exact b3.2
  have b4 := by_at a4 ⟨by omega, by omega⟩
  have n4 : bkN S = b.txs.length := by unfold bkN; rw [s3]; exact b4.1
  have s4 : bkE S = (0 + 1 + 8 + 16 + 1, 0) := by unfold bkE bkD; rw [if_neg (by rw [n4]; omega), s3]; exact b4.2
  have k4 : bkK S = b.txs.length := by unfold bkK; rw [n4]; omega
  have hl : bkL S = (b.txs.map txEnc, ((bkBy b).size, 0)) := by
    unfold bkL
    rw [s4, k4, rdMany_at (enc := fun t => partS (txEnc t)) (g := txEnc) (fun v hv p hp => by
      have hz := txEnc_room (h5 v hv)
      have := bl_at (m := 4096) hp (by omega) hz
      unfold rdBl; rw [this.1, this.2, partS_size']) a5]
    refine congrArg (Prod.mk _) (congrArg (fun n => (n, (0 : Int))) ?_)
    unfold bkBy
    simp only [ByteArray.size_append, oneB_size, putS_size, h3]
    omega
  refine ⟨hne, b1.1, by rw [s1]; exact b2.1, n4, hl, ?_⟩
  unfold rdBk
  rw [hl, s1, s2, b2.1, b3.1, (firstE_enc fun t ht => ⟨h5 t ht, hf t ht⟩).2]
  unfold intV; rw [if_neg (by omega)]
theorem bkDec_enc {b : Blk} (h : bkRight b = true) (hf : ∀ t ∈ b.txs, t.Fit) : bkErr (bkEnc b) = 0 ∧ bkDec (bkEnc b) = b := by
  rw [bkEnc_eq h]
  obtain ⟨c1, c2, c3, c4, c5, c6⟩ := bk_at h hf (At.self (bkBy b))
  obtain ⟨h1, h2, h3, h4, h5⟩ := bkRight_iff.1 h
  have he : endE (bkBy b) (bkL (bkBy b)).2 = 0 := by rw [c5]; exact end_whole
  have h0 : bkErr (bkBy b) = 0 := by
    unfold bkErr
    rw [if_neg (fun e => e.2 c2), he, if_neg (by rw [c4]; omega), c5, if_pos (firstE_enc fun t ht => ⟨h5 t ht, hf t ht⟩).1, c3, c6, if_neg]
    intro e
    rcases e with e | e | e
    · omega
    · exact absurd e (Nat.lt_irrefl _)
    · exact e h
  exact ⟨h0, by unfold bkDec; rw [if_pos h0, c6]⟩
/-- with bytes more -/
theorem bkErr_more {b : Blk} {s : ByteArray} (h : bkRight b = true) (hf : ∀ t ∈ b.txs, t.Fit) (hs : 0 < s.size) : bkErr (bkEnc b ++ s) = 4 := by
  rw [bkEnc_eq h]
  obtain ⟨c1, c2, c3, c4, c5, c6⟩ := bk_at h hf (At.app.mp (At.self (bkBy b ++ s))).1
  obtain ⟨h1, h2, h3, h4, h5⟩ := bkRight_iff.1 h
  have hz : (bkBy b).size < (bkBy b ++ s).size := by rw [ByteArray.size_append]; omega
  have he : endE (bkBy b ++ s) (bkL (bkBy b ++ s)).2 = 4 := by rw [c5]; unfold endE; rw [if_pos ⟨rfl, hz⟩]
  unfold bkErr
  rw [if_neg (fun e => e.2 c2), he, if_neg (by rw [c4]; omega), c5, if_pos (firstE_enc fun t ht => ⟨h5 t ht, hf t ht⟩).1, if_pos (.inr (.inl hz))]
theorem firstE_zero : ∀ {l : List ByteArray}, firstE l = 0 → ∀ x ∈ l, txErr x = 0
  | [], _ => by simp
  | x :: l, h => by
    by_cases h1 : txErr x = 0
    · have h2 : firstE l = 0 := by
        have : (if txErr x = 0 then firstE l else txErr x) = 0 := h
        rwa [if_pos h1] at this
      intro y hy
      rcases List.mem_cons.1 hy with e | e
      · rw [e]; exact h1
      · exact firstE_zero h2 y e
    · have : (if txErr x = 0 then firstE l else txErr x) = 0 := h
      rw [if_neg h1] at this; exact absurd this h1
theorem many35 {S : ByteArray} {x : RS} (h : e35 x) : ∀ n, e35 (rdMany (rdBl S) x n).2
  | 0 => h
  | n + 1 => bl35 (many35 h n)
theorem back_list : ∀ {l : List ByteArray}, (∀ x ∈ l, txErr x = 0) → (l.map txDec).map (fun t => partS (txEnc t)) = l.map partS
  | [], _ => rfl
  | x :: l, h => by
    rw [List.map_cons, List.map_cons, List.map_cons, back_list (l := l) fun y hy => h y (.tail _ hy), (enc_dec (h x (.head _))).2]
theorem bl_many {S : ByteArray} {x : RS} (hx : okR S x) (n : Nat) (h : (rdMany (rdBl S) x n).2.2 = 0) : x.2 = 0 ∧ At S x.1 (catB ((rdMany (rdBl S) x n).1.map partS)) ∧ (rdMany (rdBl S) x n).2 = (x.1 + (catB ((rdMany (rdBl S) x n).1.map partS)).size, 0) :=
  rdMany_back (f := rdBl S) (enc := partS) (ok := fun _ => True) (fun y hy _ => by
    have := bl_back (m := 4096) hy
    exact ⟨this.1, this.2.2.2.1, by rw [partS_size']; exact this.2.2.2.2⟩) hx n h fun _ _ => trivial
theorem bkS_ok (S : ByteArray) : okR S (bkS S) := by
  unfold bkS; split
  · exact Nat.zero_le _
  · exact byS_ok (Nat.zero_le _)
theorem bkE_ok (S : ByteArray) : okR S (bkE S) := by
  have : okR S (bkD S) := byS_ok (haS_ok (nuS_ok (bkS_ok S)))
  unfold bkE; split
  · exact flS_ok this
  · exact this
theorem bkEnc_dec {S : ByteArray} (h : bkErr S = 0) : bkRight (bkDec S) = true ∧ bkEnc (bkDec S) = S := by
  have hd : bkDec S = rdBk S := by unfold bkDec; rw [if_pos h]
  unfold bkErr at h
  by_cases c1 : S ≠ ⟨#[]⟩ ∧ byV S (0, 0) ≠ 66
  · rw [if_pos c1] at h; exact absurd h (by decide)
  rw [if_neg c1] at h
  by_cases c2 : (endE S (bkL S).2 ≠ 0 ∧ endE S (bkL S).2 ≠ 4) ∨ 8 < bkN S
  · rw [if_pos c2] at h
    exfalso
    rcases c2 with c2 | c2
    · exact c2.1 h
    · have h2 := (bl_many (bkE_ok S) (bkK S) (end_back h).1).1
      unfold bkE at h2; rw [if_pos c2] at h2
      exact fl_back h2
  rw [if_neg c2] at h
  by_cases c3 : firstE (bkL S).1 = 0
  · rw [if_pos c3] at h
    by_cases c4 : 9223372036854775807 < nuV S (bkS S) ∨ (bkL S).2.1 < S.size ∨ bkRight (rdBk S) ≠ true
    · rw [if_pos c4] at h; exact absurd h (by decide)
    · have c5 : bkRight (rdBk S) = true := by
        by_cases e : bkRight (rdBk S) = true
        · exact e
        · exact absurd (.inr (.inr e)) c4
      refine ⟨by rw [hd]; exact c5, ?_⟩
      rw [hd, bkEnc_eq c5]
      have c6 : ¬ 9223372036854775807 < nuV S (bkS S) := fun e => c4 (.inl e)
      have c7 : S.size ≤ (bkL S).2.1 := Nat.le_of_not_lt fun e => c4 (.inr (.inl e))
      have c8 : ¬ 8 < bkN S := fun e => c2 (.inr e)
      have eE : bkE S = bkD S := by unfold bkE; rw [if_neg c8]
      have p1 : e35 (bkS S) := by
        unfold bkS; split
        · exact .inl rfl
        · exact tk35 (.inl rfl)
      have p2 : e35 (bkE S) := by rw [eE]; exact tk35 (tk35 (tk35 p1))
      have p3 : e35 (bkL S).2 := many35 p2 _
      have z : (bkL S).2.2 = 0 := by
        have e1 : endE S (bkL S).2 = (bkL S).2.2 := by unfold endE; rw [if_neg (by omega)]
        have e2 : (bkL S).2.2 = 0 ∨ (bkL S).2.2 = 4 := by
          rw [← e1]
          by_cases q0 : endE S (bkL S).2 = 0
          · exact .inl q0
          · by_cases q4 : endE S (bkL S).2 = 4
            · exact .inr q4
            · exact absurd (.inl ⟨q0, q4⟩) c2
        unfold e35 at p3
        omega
      obtain ⟨w0', w1, w2⟩ := bl_many (bkE_ok S) (bkK S) z
      rw [eE] at w0'
      obtain ⟨d0, d1, d2⟩ := by_back w0'
      obtain ⟨g0, g3, g1, g2⟩ := ha_back d0
      obtain ⟨a0, a1, a2⟩ := nu_back g0
      have hne : S ≠ ⟨#[]⟩ := fun e => by
        have := a1.le
        rw [putS_size, e] at this
        have h0 : (⟨#[]⟩ : ByteArray).size = 0 := rfl
        omega
      have h66 : byV S (0, 0) = 66 := by
        by_cases q : byV S (0, 0) = 66
        · exact q
        · exact absurd ⟨hne, q⟩ c1
      have eS : bkS S = byS S (0, 0) := by unfold bkS; rw [if_neg hne]
      rw [eS] at a0
      obtain ⟨_, f1, f2⟩ := by_back a0
      rw [h66] at f1
      have hb := byV_range S (bkC S)
      have hN : bkN S = ((rdBk S).txs.length : Nat) := by
        have hl : (rdBk S).txs.length = bkK S := by
          show ((bkL S).1.map txDec).length = _
          rw [List.length_map]; exact rdMany_length _ _ _
        rw [hl]; unfold bkK
        have hb' : 0 ≤ bkN S := hb.1
        omega
      have hH : (rdBk S).height = nuV S (bkS S) := by show intV _ = _; unfold intV; rw [if_neg c6]
      have q1 : (bkS S).1 = 1 := by rw [eS, f2]
      have q2 : (bkB S).1 = 1 + 8 := by show (nuS S (bkS S)).1 = _; rw [a2]; show (bkS S).1 + 8 = _; rw [q1]
      have q3 : (bkC S).1 = 1 + 8 + 16 := by show (haS S (bkB S)).1 = _; rw [g2]; show (bkB S).1 + 16 = _; rw [q2]
      have q4 : (bkE S).1 = 1 + 8 + 16 + 1 := by rw [eE]; show (byS S (bkC S)).1 = _; rw [d2]; show (bkC S).1 + 1 = _; rw [q3]
      have hL : (rdBk S).txs.map (fun t => partS (txEnc t)) = (bkL S).1.map partS := back_list (firstE_zero c3)
      have hA : At S 0 (bkBy (rdBk S)) := by
        unfold bkBy
        rw [hL, hH]
        refine At.app.2 ⟨f1, At.app.2 ⟨a1.step (by rw [q1, oneB_size]), At.app.2 ⟨g1.step (by rw [q2, oneB_size, putS_size]), At.app.2 ⟨?_, w1.step ?_⟩⟩⟩⟩
        · rw [← hN]
          exact d1.step (by rw [q3, oneB_size, putS_size]; show _ = 0 + 1 + 8 + (haV S (bkB S)).size; rw [g3])
        · rw [q4, oneB_size, oneB_size, putS_size]; show _ = 0 + 1 + 8 + (haV S (bkB S)).size + 1; rw [g3]
      refine (At.whole hA ?_).symm
      have hle := hA.le
      have hs : (bkBy (rdBk S)).size = (bkL S).2.1 := by
        have e9 : (bkL S).2 = ((bkE S).1 + (catB ((bkL S).1.map partS)).size, 0) := w2
        rw [e9]
        show _ = (bkE S).1 + _
        rw [q4]
        unfold bkBy
        rw [hL]
        simp only [ByteArray.size_append, oneB_size, putS_size]
        show 1 + (8 + ((haV S (bkB S)).size + (1 + _))) = _
        rw [g3]; omega
      omega
  · rw [if_neg c3] at h; exact absurd h c3
end Go.Proofs.YtomhcibbalhgkaaGreat
