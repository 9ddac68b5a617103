/- The walk of LotteryOnce. Written by program (walk.py) out of a table of contracts and invariants. -/
import Derived.Test.YtghomncegjamfaaMb
import Derived.Test.YtghomncegjamfaaJz
import Derived.Test.YtghomncegjamfaaMk3
namespace Go.Proofs.Ytghomncegjamfaa
open Go.RowKit
set_option maxRecDepth 100000
set_option maxHeartbeats 2000000
set_option linter.unusedVariables false
set_option linter.unusedSimpArgs false
attribute [local irreducible] Yields Makes Writes
attribute [local irreducible] commitS signK rootK
def strOn : ByteArray := ⟨#[115]⟩
/-! ### A key that may be used up -/
def sgS (sd : ByteArray) (n : Nat) (msg : ByteArray) : ByteArray := if n < 8 then signK sd 3 n msg else ⟨#[]⟩
def sgE (n : Nat) : Int := if n < 8 then 0 else 14
def sgN (n : Nat) : Nat := if n < 8 then n + 1 else n
theorem ksign_two {w0 w : World} {S : List Nat} {H : List HA} {bk bc : Nat} {p : Option Addr × Nat} {seed : ByteArray} {n : Nat} (hw : Hp w0 S H w) (h1 : kyL p seed 3 ∈ H) (h2 : kyK bk bc p seed 3 ∈ H) (h3 : kyC bc 3 (n : Nat) ∈ H) (hsd : seed.size ≤ 1000000) (msg : ByteArray) (hm : msg.size ≤ 900000) (hn : n ≤ 8) :
    Calls Try.prog 13 #[.pointer (some ⟨bk, 0, none⟩), .string msg] w fun e w' => e = .returned (.tuple #[.string (sgS seed n msg), .int .i64 (sgE n)]) ∧ Upd w w' (kyC bc 3 (n : Nat)) (kyC bc 3 (sgN n : Nat)) := by
  unfold sgS sgE sgN
  by_cases h : n < 8
  · rw [if_pos h, if_pos h, if_pos h]; exact ksign_own hw h1 h2 h3 (by decide) hsd msg hm h
  · rw [if_neg h, if_neg h, if_neg h]
    refine (ksign_over hw h1 h2 h3 msg (by show ((2 ^ 3 : Nat) : Int) ≤ n; omega)).mono fun e w' ⟨he, hc⟩ => ⟨he, ?_⟩
    exact ((Hp.start (A := kyC bc 3 (n : Nat)) rfl (hw.get h3)).pure hc).updd rfl
/-! ### The book -/
structure OI (K : ByteArray) (i n : Nat) (B : Bk) (tk : List Int) : Prop where
  onc : Onc strCh 100 B tk
  fit : B.Fit
  next : B.next ≤ i + 1
  cl : B.cl = K
  n : n ≤ 8
  tkf : ∀ s ∈ tk, fits .u64 s
  tkl : tk.length ≤ i
theorem OI.new (K : ByteArray) : OI K 0 0 ⟨strCh, K, 1, []⟩ [] := ⟨onc_new _ _ _, nil_fit ⟨by decide, by decide⟩, by show (1 : Int) ≤ (0 : Nat) + 1; omega, rfl, by omega, fun s hs => (by cases hs), by simp⟩
theorem OI.len {K : ByteArray} {i n : Nat} {B : Bk} {tk : List Int} (h : OI K i n B tk) : B.l.length ≤ 1000 := by have := h.onc.ok.len; omega
theorem OI.more {K : ByteArray} {i n : Nat} {B : Bk} {tk : List Int} (h : OI K i n B tk) : OI K (i + 1) n B tk := ⟨h.onc, h.fit, by have := h.next; omega, h.cl, h.n, h.tkf, by have := h.tkl; omega⟩
theorem OI.gone {K : ByteArray} {i n : Nat} {B : Bk} {tk : List Int} (h : OI K i n B tk) (s : Int) : OI K (i + 1) n (goneB B s) tk := ⟨h.onc.gone s, fit_gone h.fit s, by rw [gone_next]; have := h.next; omega, by rw [(gone_chan B s).2]; exact h.cl, h.n, h.tkf, by have := h.tkl; omega⟩
def oNew (B : Bk) (c : Int) : Of := newO B (1 + c % 100) 1 1 strOn c
def oMk (B : Bk) (c : Int) : Bk := makeB B (1 + c % 100) 1 1 strOn c
theorem once_make {K : ByteArray} {i n : Nat} {B : Bk} {tk : List Int} (h : OI K i n B tk) (hi : i ≤ 16) {c : Int} (hc : fits .u64 c) (hl : B.l.length < 8) :
    makeE B (1 + c % 100) 1 1 strOn c = 0 ∧ makeO B (1 + c % 100) 1 1 strOn c = oNew B c ∧ (oMk B c).next = B.next + 1 ∧ OI K (i + 1) n (oMk B c) tk := by
  have hx := h.next
  have hone := h.onc.ok.one
  have hc2 := hc
  simp only [fits] at hc2
  have e := make_one (raw := c) h.onc.ok (by decide) (face := 1 + c % 100) (salt := strOn) (by omega) (by decide) (by omega)
  rw [if_neg (by omega)] at e
  have e2 : oMk B c = { B with next := (B.next + 1) % 18446744073709551616, l := B.l ++ [oNew B c] } := if_pos e
  refine ⟨e, if_pos e, by rw [e2]; show (B.next + 1) % 18446744073709551616 = _; omega, h.onc.make (by omega) ⟨by omega, by omega⟩ (by omega), ?_, ?_, ?_, h.n, h.tkf, by have := h.tkl; omega⟩
  · exact fit_make h.fit (by rw [h.onc.ok.chan]; decide) (by simp only [fits]; omega) ⟨by decide, by decide⟩ ⟨by decide, by decide⟩ hc
  · rw [e2]; show (B.next + 1) % 18446744073709551616 ≤ _; omega
  · exact (make_chan B _ _ _ _ _).2.trans h.cl
theorem once_full {K : ByteArray} {i n : Nat} {B : Bk} {tk : List Int} (h : OI K i n B tk) {c : Int} (hc : fits .u64 c) (hl : ¬ B.l.length < 8) :
    makeE B (1 + c % 100) 1 1 strOn c = 9 ∧ makeO B (1 + c % 100) 1 1 strOn c = of0 ∧ oMk B c = B := by
  simp only [fits] at hc
  have e := make_one (raw := c) h.onc.ok (by decide) (face := 1 + c % 100) (salt := strOn) (by omega) (by decide) (by omega)
  rw [if_pos (by omega)] at e
  exact ⟨e, if_neg (by rw [e]; decide), if_neg (by rw [e]; decide)⟩
theorem once_two {K : ByteArray} {i n : Nat} {B : Bk} {tk : List Int} (h : OI K i n B tk) (hi : i ≤ 16) {c : Int} (hc : fits .u64 c) :
    (B.l.length < 8 ∧ makeE B (1 + c % 100) 1 1 strOn c = 0 ∧ makeO B (1 + c % 100) 1 1 strOn c = oNew B c ∧ (oMk B c).next = B.next + 1 ∧ OI K (i + 1) n (oMk B c) tk) ∨ (¬ B.l.length < 8 ∧ makeE B (1 + c % 100) 1 1 strOn c = 9 ∧ makeO B (1 + c % 100) 1 1 strOn c = of0 ∧ oMk B c = B) := by
  by_cases hl : B.l.length < 8
  · exact .inl ⟨hl, once_make h hi hc hl⟩
  · exact .inr ⟨hl, once_full h hc hl⟩
def onT (sd : ByteArray) (n : Nat) (o : Of) (c : Int) : Tk := tkSig o c (sgS sd n (tkText (tkOf o c)))
theorem sgS_size (sd : ByteArray) (n : Nat) (msg : ByteArray) : (sgS sd n msg).size ≤ 400 := by
  unfold sgS
  split
  · rename_i h; rw [signK_size sd (h := 3) (i := n) (show n < 2 ^ 3 from h)]; decide
  · decide
theorem set_fit {B : Bk} (h : B.Fit) {j : Nat} (hj : j < B.l.length) : Bk.Fit { B with l := B.l.set j { B.l[j] with taken := true } } := by
  have hm : ∀ o ∈ B.l.set j { B.l[j] with taken := true }, o = { B.l[j] with taken := true } ∨ o ∈ B.l := fun o ho => (List.mem_or_eq_of_mem_set ho).symm
  refine ⟨h.next, fun o ho => ?_, fun o ho => ?_, by show (B.l.set _ _).length ≤ 8; rw [List.length_set]; exact h.len⟩
  · rcases hm o ho with e | e
    · rw [e]; have := h.l _ (List.getElem_mem hj); exact ⟨this.serial, this.face, this.wins, this.many, this.drawn⟩
    · exact h.l o e
  · rcases hm o ho with e | e
    · rw [e]; have := h.low _ (List.getElem_mem hj); exact this
    · exact h.low o e
theorem once_take {sd : ByteArray} {i n : Nat} {B : Bk} {tk : List Int} (h : OI (rootK sd 3) i n B tk) {c : Int} {j : Nat} (hj : j < B.l.length) {o : Of} (ho : B.l[j] = o) :
    ((o.serial ∈ tk → takeE B (onT sd n o c) = 7) ∧ (o.serial ∉ tk → takeE B (onT sd n o c) = if n < 8 then 0 else 10)) ∧
    (takeE B (onT sd n o c) = 0 → OI (rootK sd 3) (i + 1) (sgN n) (takeB B (onT sd n o c)) (tk ++ [o.serial])) ∧ (takeE B (onT sd n o c) ≠ 0 → OI (rootK sd 3) (i + 1) (sgN n) (takeB B (onT sd n o c)) tk) := by
  subst ho
  have hx := take_at (c := c) (s := sgS sd n (tkText (tkOf B.l[j] c))) h.onc.ok.rising hj
  have hfl := h.onc.flag _ (List.getElem_mem hj)
  have hg := h.onc.ok.good _ (List.getElem_mem hj)
  have hcz : B.l[j].commit.size = 16 := by rw [hg.com]; exact commitS_size _ _
  have hchz : B.l[j].chan.size = 16 := by rw [hg.chan]; decide
  have hn := h.n
  have hn2 : sgN n ≤ 8 := by unfold sgN; split <;> omega
  have hsig : n < 8 → signedB B.cl (tkSig B.l[j] c (sgS sd n (tkText (tkOf B.l[j] c)))) = true := fun hl => by
    have e : sgS sd n (tkText (tkOf B.l[j] c)) = signK sd 3 n (tkText (tkOf B.l[j] c)) := if_pos hl
    have hz := sgS_size sd n (tkText (tkOf B.l[j] c))
    rw [e] at hz ⊢
    rw [h.cl]
    exact signed_key sd (by decide) (show n < 2 ^ 3 from hl) hchz hcz hz
  have hbare : ¬ n < 8 → signedB B.cl (tkSig B.l[j] c (sgS sd n (tkText (tkOf B.l[j] c)))) = false := fun hl => by
    have e : sgS sd n (tkText (tkOf B.l[j] c)) = ⟨#[]⟩ := if_neg hl
    rw [e]; exact signed_none
  refine ⟨⟨fun hm => ?_, fun hm => ?_⟩, fun hz => ?_, fun hz => ?_⟩
  · exact hx.1.trans (if_pos (hfl.2 hm))
  · refine hx.1.trans ?_
    rw [if_neg (fun e => hm (hfl.1 e))]
    by_cases hl : n < 8
    · rw [if_pos (hsig hl), if_pos hl]
    · rw [if_neg (by rw [hbare hl]; decide), if_neg hl]
  · have e := take_set h.onc.ok.rising hj hz
    rw [show onT sd n B.l[j] c = tkSig B.l[j] c (sgS sd n (tkText (tkOf B.l[j] c))) from rfl, e]
    refine ⟨h.onc.take hj, set_fit h.fit hj, by have := h.next; show B.next ≤ _; omega, h.cl, hn2, fun s hs => ?_, by rw [List.length_append]; have := h.tkl; simp only [List.length_singleton]; omega⟩
    rcases List.mem_append.1 hs with hs | hs
    · exact h.tkf s hs
    · rw [List.mem_singleton.1 hs]; exact (h.fit.l _ (List.getElem_mem hj)).serial
  · have e : takeB B (onT sd n B.l[j] c) = B := if_neg hz
    rw [e]
    have h2 := h.more
    exact ⟨h2.onc, h2.fit, h2.next, h2.cl, hn2, h2.tkf, h2.tkl⟩
theorem free_take {l : List Of} {m : Nat} {o : Of} (h : m < l.length) (ho : l[m] = o) : freeF (l.take (m + 1)) = if o.taken = true then freeF (l.take m) else freeF (l.take m) ++ [o.face] := by
  subst ho
  unfold freeF
  rw [List.take_succ_eq_append_getElem h, List.filter_append, List.map_append]
  cases h2 : l[m].taken <;> simp [List.filter_cons, List.filter_nil, h2]
theorem free_len (l : List Of) : (freeF l).length ≤ l.length := by unfold freeF; rw [List.length_map]; exact List.length_filter_le _ _
theorem free_fits {K : ByteArray} {i n : Nat} {B : Bk} {tk : List Int} (h : OI K i n B tk) : (∀ x ∈ freeF B.l, fits .u64 x) ∧ sumE (freeF B.l) = 0 ∧ sumA (freeF B.l) = openL B.l := by
  have h1 := h.onc.ok.open_ (by decide)
  refine ⟨fun x hx => ?_, ?_, ?_⟩
  · unfold freeF at hx
    obtain ⟨o, ho, rfl⟩ := List.mem_map.1 hx
    exact (h.fit.l o (List.mem_filter.1 ho).1).face
  · rw [sumE_zero]; omega
  · unfold sumA; rw [if_neg (by omega)]; omega
theorem mem_snoc {l : List Int} {m : Nat} {s : Int} (h : m < l.length) : s ∈ l.take (m + 1) ↔ s ∈ l.take m ∨ l[m] = s := by
  rw [List.take_succ_eq_append_getElem h, List.mem_append, List.mem_singleton]
  exact or_congr_right ⟨fun e => e.symm, fun e => e.symm⟩
theorem dec_or {a b c : Prop} [Decidable a] [Decidable b] [Decidable c] (h : a ↔ b ∨ c) : decide a = (decide b || decide c) := by
  rw [Bool.eq_iff_iff]; simp [h]

theorem lotteryOnce_any (s : ByteArray) (ad : Option Addr) (cp : Nat) (xs : List Int) (w : World) (hx : ∀ x ∈ xs, fits .u64 x) (hI : Ints w ad .u64 xs) :
  Calls Try.prog 4 #[.string s, .slice ad xs.length cp] w fun e w' => e = .returned (.bool true) ∧ Ch [] w w' := by
 have hsd := cutS_size s 50
 have hkz := rootK_size (cutS s 50) (h := 3) (by decide)
 refine calls_of (n := 252) (E := [(0, .string s), (1, .slice ad xs.length cp)]) (W := Hp w [] []) Try.func4 rfl rfl (Nat.le_of_ble_eq_true rfl) rfl (Hp.nil _ _) ?_
 refine jsr ?_
 refine jz ?_
 refine jnt ?_
 refine jsr ?_
 refine jz ?_
 refine jz ?_
 refine jy (y_len_str rfl) ?_
 refine jy (y_min rfl rfl) ?_
 refine jy (y_substr_hi rfl rfl (by omega) (by omega)) ?_
 refine jl_as (congrArg Value.string (cut_eq _ 50)) ?_
 refine jl_gcallL rfl (by decide) rfl (goes_func rfl) (fun w1 hw1 => mnew_own (cutS s 50) 3 w1 (by omega) (by decide)) (fun kb => ?_)
 refine jz ?_
 refine jz ?_
 refine jz ?_
 refine jz ?_
 refine jz ?_
 refine jnt ?_
 refine jc_seq ?_
 refine jsr ?_
 refine jz ?_
 refine jy (y_eql_nil rfl rfl) ?_
 refine jl_as (u := .bool false) rfl ?_
 refine jz ?_
 refine jz ?_
 refine jy (y_neq rfl rfl) ?_
 refine jl_prop (fun h44 => ?_) (fun h44 => ?_)
 ·first
  | (exfalso; omega)
  | (
   refine jy (y_pick_false rfl rfl) ?_
   refine jnt ?_
   refine jc_true rfl ?_
   refine jsr ?_
   refine jz ?_
   refine jnt ?_
   refine jc_ret ?_
   refine jq_then_ret ?_
   refine jq_ret1 rfl rfl ?_
   exact fun _ hw => ⟨rfl, hw.ch⟩
   )
 ·first
  | (exfalso; omega)
  | (
   refine jy (y_pick_false rfl rfl) ?_
   refine jnt ?_
   refine jc_false rfl ?_
   refine jc_skip ?_
   refine jq_then ?_
   refine jsr ?_
   refine jpc (goes_func rfl) (fun w1 hw1 => lchan_any w1) ?_
   refine jz ?_
   refine jpc (goes_func rfl) (fun w1 hw1 => kroot_own (p := kb.2) (bc := kb.1.2) (n := 0) (seed := (cutS s 50)) (h := 3) hw1 (by first | exact mem0 | exact mem1 | exact mem2 | exact mem3 | exact mem4 | exact mem5 | exact mem6 | exact mem7 | exact mem8 | exact mem9 | exact mem10 | exact mem11 | exact mem12) (by first | exact mem0 | exact mem1 | exact mem2 | exact mem3 | exact mem4 | exact mem5 | exact mem6 | exact mem7 | exact mem8 | exact mem9 | exact mem10 | exact mem11 | exact mem12) (by first | exact mem0 | exact mem1 | exact mem2 | exact mem3 | exact mem4 | exact mem5 | exact mem6 | exact mem7 | exact mem8 | exact mem9 | exact mem10 | exact mem11 | exact mem12)) ?_
   refine jl_fcall rfl (by decide) rfl (goes_func rfl) (fun w1 hw1 => lnew_ok strCh (rootK (cutS s 50) 3) w1 (by decide) hkz) (fun b50 => ?_)
   refine jz ?_
   refine jz ?_
   refine jz ?_
   refine jz ?_
   refine jz ?_
   refine jnt ?_
   refine jc_seq ?_
   refine jsr ?_
   refine jz ?_
   refine jy (y_eql_nil rfl rfl) ?_
   refine jl_as (u := .bool false) rfl ?_
   refine jz ?_
   refine jz ?_
   refine jy (y_neq rfl rfl) ?_
   refine jl_prop (fun h57 => ?_) (fun h57 => ?_)
   ·first
    | (exfalso; omega)
    | (
     refine jy (y_pick_false rfl rfl) ?_
     refine jnt ?_
     refine jc_true rfl ?_
     refine jsr ?_
     refine jz ?_
     refine jnt ?_
     refine jc_ret ?_
     refine jq_then_ret ?_
     refine jq_ret1 rfl rfl ?_
     exact fun _ hw => ⟨rfl, hw.ch⟩
     )
   ·first
    | (exfalso; omega)
    | (
     refine jy (y_pick_false rfl rfl) ?_
     refine jnt ?_
     refine jc_false rfl ?_
     refine jc_skip ?_
     refine jq_then ?_
     refine jc_seq ?_
     refine jc_world (fun _ h => (h.nilrow 33 9).cast (H' := [Bk.r [] none 0, Bk.h ⟨strCh, (rootK (cutS s 50) 3), 1, []⟩ b50 none 0, kyL kb.2 (cutS s 50) 3, kyK kb.1.1 kb.1.2 kb.2 (cutS s 50) 3, kyC kb.1.2 3 (0 : Nat)]) rfl) ?_
     refine jc_region ?_
     refine jl_m rfl (by decide) rfl (m_buildSlice (by decide) Built.nil) (fun b59 => ?_)
     refine jz ?_
     refine jnt ?_
     refine jc_seq ?_
     refine jsr ?_
     refine jz ?_
     refine jnt ?_
     refine jc_block ?_
     refine jc_loop6 (fun (i : Nat) (B : Bk) (p : Option Addr × Nat) (tk : List Int) (q : Option Addr × Nat) (n : Nat) => [(1, .slice ad xs.length cp), (5, .pointer (some ⟨kb.1.1, 0, none⟩)), (7, .pointer (some ⟨b50, 0, none⟩)), (9, .slice q.1 tk.length q.2), (10, .int .i64 (i : Nat))]) (fun (i : Nat) (B : Bk) (p : Option Addr × Nat) (tk : List Int) (q : Option Addr × Nat) (n : Nat) => fun w' => (i ≤ xs.length ∧ i ≤ 16 ∧ OI (rootK (cutS s 50) 3) i n B tk) ∧ Hp w [] [Bk.r (B).l p.1 p.2, Bk.h B b50 p.1 p.2, .row q.1 (tk).length q.2 22 1 ((tk).map (Value.int .u64)), kyL kb.2 (cutS s 50) 3, kyK kb.1.1 kb.1.2 kb.2 (cutS s 50) 3, kyC kb.1.2 3 (n : Nat)] w') (fun (i : Nat) (B : Bk) (p : Option Addr × Nat) (tk : List Int) (q : Option Addr × Nat) (n : Nat) => xs.length - i) 0 ⟨strCh, (rootK (cutS s 50) 3), 1, []⟩ (none, 0) [] (some ⟨b59, 0, none⟩, 0) 0 ?_ ?_ ?_
     ·exact ⟨rfl, rfl, rfl, rfl, rfl, trivial⟩
     ·exact fun _ h => ⟨⟨by omega, by omega, OI.new _⟩, (h.part (.cons del1 (.cons del1 (.cons del0 (.cons del0 (.cons del0 (.cons del0 .nil))))))).cast rfl⟩
     ·intro i B p tk q n
      refine jc_and (fun hi => ?_)
      obtain ⟨hi1, hi2, hB⟩ := hi
      have hl8x := hB.onc.ok.len
      have hnx := hB.next
      have hn1 := hB.onc.ok.one
      have htl := hB.tkl
      refine jc_seq ?_
      refine jsr ?_
      refine jz ?_
      refine jz ?_
      refine jy (y_len_slice rfl) ?_
      refine jy (y_lss rfl rfl) ?_
      refine jl_prop (fun h63 => ?_) (fun h63 => ?_)
      ·first
       | (exfalso; omega)
       | (
        refine jz ?_
        refine jz ?_
        refine jy (y_lss rfl rfl) ?_
        refine jl_prop (fun h66 => ?_) (fun h66 => ?_)
        ·first
         | (exfalso; omega)
         | (
          have hlt : i < xs.length := by omega
          obtain ⟨bb, oo, ea, hold⟩ := hI i hlt
          have hfc := hx _ (List.getElem_mem hlt)
          have hfn := hfc
          simp only [fits] at hfn
          generalize hxe : xs[i]'hlt = c at *
          refine jy (y_pick_true rfl rfl) ?_
          refine jnt ?_
          refine jc_true rfl ?_
          refine jc_skip ?_
          refine jq_then ?_
          refine jc_seq ?_
          refine jc_block ?_
          refine jsr ?_
          refine jz ?_
          refine jl_as (u := .slice (some ⟨bb, oo, none⟩) xs.length cp) (by rw [ea]) ?_
          refine jz ?_
          refine jy (y_indexAddr_slice (off := oo + i) rfl rfl (by omega) (by omega) (by omega)) ?_
          refine jy (y_load_old rfl hold (by simp)) ?_
          refine jz ?_
          refine jnt ?_
          refine jc_joinI5 (fun (B2 : Bk) (p2 : Option Addr × Nat) (tk2 : List Int) (q2 : Option Addr × Nat) (n2 : Nat) => [(1, .slice ad xs.length cp), (5, .pointer (some ⟨kb.1.1, 0, none⟩)), (7, .pointer (some ⟨b50, 0, none⟩)), (9, .slice q2.1 tk2.length q2.2), (10, .int .i64 (i : Nat))]) (fun (B2 : Bk) (p2 : Option Addr × Nat) (tk2 : List Int) (q2 : Option Addr × Nat) (n2 : Nat) => fun w' => OI (rootK (cutS s 50) 3) (i + 1) n2 B2 tk2 ∧ Hp w [] [Bk.r (B2).l p2.1 p2.2, Bk.h B2 b50 p2.1 p2.2, .row q2.1 (tk2).length q2.2 22 1 ((tk2).map (Value.int .u64)), kyL kb.2 (cutS s 50) 3, kyK kb.1.1 kb.1.2 kb.2 (cutS s 50) 3, kyC kb.1.2 3 (n2 : Nat)] w') ?_ ?_
          ·skip
           intro B2 p2 tk2 q2 n2
           refine jc_and (fun hB2 => ?_)
           have hl82 := hB2.onc.ok.len
           refine jsr ?_
           refine jl_m rfl (by decide) rfl (m_buildSlice (by decide) Built.nil) (fun b194 => ?_)
           refine jz ?_
           refine jnt ?_
           refine jsr ?_
           refine jz ?_
           refine jl_fcall rfl (by decide) rfl (goes_func rfl) (fun w1 hw1 => bk_offers hw1 (show BkIn _ B2 b50 p2.1 p2.2 from ⟨(by first | exact mem0 | exact mem1 | exact mem2 | exact mem3 | exact mem4 | exact mem5 | exact mem6 | exact mem7 | exact mem8 | exact mem9 | exact mem10 | exact mem11 | exact mem12), (by first | exact mem0 | exact mem1 | exact mem2 | exact mem3 | exact mem4 | exact mem5 | exact mem6 | exact mem7 | exact mem8 | exact mem9 | exact mem10 | exact mem11 | exact mem12), hB2.len⟩)) (fun b196 => ?_)
           refine jz ?_
           refine jnt ?_
           refine jc_seq ?_
           refine jsr ?_
           refine jz ?_
           refine jnt ?_
           refine jc_block ?_
           refine jc_loop2 (fun (m : Nat) (a : Option Addr × Nat) => [(1, .slice ad xs.length cp), (5, .pointer (some ⟨kb.1.1, 0, none⟩)), (7, .pointer (some ⟨b50, 0, none⟩)), (9, .slice q2.1 tk2.length q2.2), (10, .int .i64 (i : Nat)), (26, .slice a.1 (freeF (B2.l.take m)).length a.2), (27, .slice (some ⟨b196, 0, none⟩) B2.l.length B2.l.length), (28, .int .i64 (m : Nat))]) (fun (m : Nat) (a : Option Addr × Nat) => fun w' => m ≤ B2.l.length ∧ Hp w [] [.row a.1 (freeF (B2.l.take m)).length a.2 22 1 ((freeF (B2.l.take m)).map (Value.int .u64)), Bk.r (B2).l (some ⟨b196, 0, none⟩) (B2).l.length, Bk.r (B2).l p2.1 p2.2, Bk.h B2 b50 p2.1 p2.2, .row q2.1 (tk2).length q2.2 22 1 ((tk2).map (Value.int .u64)), kyL kb.2 (cutS s 50) 3, kyK kb.1.1 kb.1.2 kb.2 (cutS s 50) 3, kyC kb.1.2 3 (n2 : Nat)] w') (fun (m : Nat) (a : Option Addr × Nat) => B2.l.length - m) 0 (some ⟨b194, 0, none⟩, 0) ?_ ?_ ?_
           ·exact ⟨rfl, rfl, rfl, rfl, rfl, rfl, rfl, rfl, trivial⟩
           ·exact fun _ h => ⟨by omega, (h.part (.cons del1 (.cons del0 (.cons del0 (.cons del0 (.cons del0 (.cons del0 (.cons del0 (.cons del0 .nil))))))))).cast rfl⟩
           ·intro m a
            refine jc_and (fun hm => ?_)
            refine jc_seq ?_
            refine jsr ?_
            refine jz ?_
            refine jz ?_
            refine jy (y_len_slice rfl) ?_
            refine jy (y_lss rfl rfl) ?_
            refine jl_prop (fun h200 => ?_) (fun h200 => ?_)
            ·first
             | (exfalso; omega)
             | (
              have hlt : m < B2.l.length := by omega
              have hget := flat_at hlt rfl
              have hft := free_take hlt rfl
              have hfl := free_len (B2.l.take m)
              rw [List.length_take] at hfl
              have hris : 0 < m → (B2.l[m - 1]'(by omega)).serial < (B2.l[m]'hlt).serial := fun h0 => hB2.onc.ok.rising.get (by omega) hlt
              generalize hoe : B2.l[m]'hlt = o at *
              refine jnt ?_
              refine jc_true rfl ?_
              refine jc_skip ?_
              refine jq_then ?_
              refine jc_seq ?_
              refine jc_block ?_
              refine jc_seq ?_
              refine jsr ?_
              refine jz ?_
              refine jz ?_
              refine jy (y_indexAddr_slice (off := m * 9) rfl rfl (by omega) (by omega) (by omega)) ?_
              refine jz ?_
              refine jy (y_load_row rfl (by first | exact mem0 | exact mem1 | exact mem2 | exact mem3 | exact mem4 | exact mem5 | exact mem6 | exact mem7 | exact mem8 | exact mem9 | exact mem10 | exact mem11 | exact mem12) (hget 8 _ rfl)) ?_
              refine jl_bool (fun h207 => ?_) (fun h207 => ?_)
              ·skip
               refine jz ?_
               refine jnt ?_
               refine jc_false rfl ?_
               refine jc_skip ?_
               refine jq_then ?_
               refine jc_seq ?_
               refine jc_draw (by kernel_rfl) (fun _ h => h.drew) ?_
               refine juz ?_
               refine juy (y_gtr rfl rfl) ?_
               refine ju_prop (fun h218 => ?_) (fun h218 => ?_)
               ·first
                | (exfalso; omega)
                | (
                 have hlp : m - 1 < B2.l.length := by omega
                 have hgetp := flat_at hlp rfl 1 _ rfl
                 have hris2 := hris (by omega)
                 generalize hoq : (B2.l[m - 1]'hlp).serial = sp at *
                 refine juz ?_
                 refine juz ?_
                 refine juz ?_
                 refine juy (y_sub_fits rfl rfl (by simp only [fits]; omega)) ?_
                 refine ju_as (u := .int .i64 ((m - 1 : Nat) : Int)) (congrArg (Value.int .i64) (by omega)) ?_
                 refine juy (y_indexAddr_slice (off := (m - 1) * 9) rfl rfl (by omega) (by omega) (by omega)) ?_
                 refine juz ?_
                 refine juy (y_load_row rfl (by first | exact mem0 | exact mem1 | exact mem2 | exact mem3 | exact mem4 | exact mem5 | exact mem6 | exact mem7 | exact mem8 | exact mem9 | exact mem10 | exact mem11 | exact mem12) hgetp) ?_
                 refine juz ?_
                 refine juz ?_
                 refine juy (y_indexAddr_slice (off := m * 9) rfl rfl (by omega) (by omega) (by omega)) ?_
                 refine juz ?_
                 refine juy (y_load_row rfl (by first | exact mem0 | exact mem1 | exact mem2 | exact mem3 | exact mem4 | exact mem5 | exact mem6 | exact mem7 | exact mem8 | exact mem9 | exact mem10 | exact mem11 | exact mem12) (hget 1 _ rfl)) ?_
                 refine juy (y_geq rfl rfl) ?_
                 refine ju_prop (fun h231 => ?_) (fun h231 => ?_)
                 ·first
                  | (exfalso; omega)
                  | (
                   refine juy (y_pick_true rfl rfl) ?_
                   refine ju_nil ?_
                   refine jq_then ?_
                   refine jc_true rfl ?_
                   refine jsr ?_
                   refine jz ?_
                   refine jnt ?_
                   refine jc_ret ?_
                   refine jq_block_ret ?_
                   refine jq_then_ret ?_
                   refine jq_then_ret ?_
                   refine jq_block_ret ?_
                   refine jq_then_ret ?_
                   refine jq_block_ret ?_
                   refine jq_then_ret ?_
                   refine jq_then_ret ?_
                   refine jq_block_ret ?_
                   refine jq_then_ret ?_
                   refine jq_ret1 rfl rfl ?_
                   exact fun _ hw => ⟨rfl, hw.ch⟩
                   )
                 ·first
                  | (exfalso; omega)
                  | (
                   refine juy (y_pick_true rfl rfl) ?_
                   refine ju_nil ?_
                   refine jq_then ?_
                   refine jc_false rfl ?_
                   refine jc_skip ?_
                   refine jq_block ?_
                   refine jq_then ?_
                   refine jc_region ?_
                   refine jz ?_
                   refine jy (y_add_fits rfl rfl (by simp only [fits]; omega)) ?_
                   refine jz ?_
                   refine jl_nil ?_
                   refine jq_round2 (i := m) (j := a) (m + 1) a ?_ ?_ ?_
                   ·omega
                   ·exact ⟨rfl, rfl, rfl, rfl, rfl, by show some _ = some _; rw [hft, if_pos (by assumption)], rfl, lk_int rfl (by omega), trivial⟩
                   ·exact fun _ h => ⟨by omega, h.cast (by rw [hft, if_pos (by assumption)])⟩
                   )
                 )
               ·first
                | (exfalso; omega)
                | (
                 refine juz ?_
                 refine ju_skip rfl (by decide) rfl ?_
                 refine ju_skip rfl (by decide) rfl ?_
                 refine ju_skip rfl (by decide) rfl ?_
                 refine ju_skip rfl (by decide) rfl ?_
                 refine ju_skip rfl (by decide) rfl ?_
                 refine ju_skip rfl (by decide) rfl ?_
                 refine ju_skip rfl (by decide) rfl ?_
                 refine ju_skip rfl (by decide) rfl ?_
                 refine ju_skip rfl (by decide) rfl ?_
                 refine ju_skip rfl (by decide) rfl ?_
                 refine ju_skip rfl (by decide) rfl ?_
                 refine ju_skip rfl (by decide) rfl ?_
                 refine juy (y_pick_false rfl rfl) ?_
                 refine ju_nil ?_
                 refine jq_then ?_
                 refine jc_false rfl ?_
                 refine jc_skip ?_
                 refine jq_block ?_
                 refine jq_then ?_
                 refine jc_region ?_
                 refine jz ?_
                 refine jy (y_add_fits rfl rfl (by simp only [fits]; omega)) ?_
                 refine jz ?_
                 refine jl_nil ?_
                 refine jq_round2 (i := m) (j := a) (m + 1) a ?_ ?_ ?_
                 ·omega
                 ·exact ⟨rfl, rfl, rfl, rfl, rfl, by show some _ = some _; rw [hft, if_pos (by assumption)], rfl, lk_int rfl (by omega), trivial⟩
                 ·exact fun _ h => ⟨by omega, h.cast (by rw [hft, if_pos (by assumption)])⟩
                 )
              ·skip
               refine jz ?_
               refine jnt ?_
               refine jc_true rfl ?_
               refine jc_region ?_
               refine jz ?_
               refine jz ?_
               refine jz ?_
               refine jy (y_indexAddr_slice (off := m * 9) rfl rfl (by omega) (by omega) (by omega)) ?_
               refine jz ?_
               refine jy (y_load_row rfl (by first | exact mem0 | exact mem1 | exact mem2 | exact mem3 | exact mem4 | exact mem5 | exact mem6 | exact mem7 | exact mem8 | exact mem9 | exact mem10 | exact mem11 | exact mem12) (hget 2 _ rfl)) ?_
               refine jl_m rfl (by decide) rfl (m_buildSlice (by decide) (Built.cell rfl rfl rfl (by repeat constructor) Built.nil)) (fun b215 => ?_)
               refine jl_m2 rfl (by decide) rfl (m_append rfl rfl (by first | exact del0 | exact del1 | exact del2 | exact del3 | exact del4) (by first | exact del0 | exact del1 | exact del2 | exact del3 | exact del4) rfl (by omega) (by omega)) (fun a216 c216 => ?_)
               refine jz ?_
               refine jnt ?_
               refine jc_seq ?_
               refine jc_draw (by kernel_rfl) (fun _ h => h.drew) ?_
               refine juz ?_
               refine juy (y_gtr rfl rfl) ?_
               refine ju_prop (fun h218 => ?_) (fun h218 => ?_)
               ·first
                | (exfalso; omega)
                | (
                 have hlp : m - 1 < B2.l.length := by omega
                 have hgetp := flat_at hlp rfl 1 _ rfl
                 have hris2 := hris (by omega)
                 generalize hoq : (B2.l[m - 1]'hlp).serial = sp at *
                 refine juz ?_
                 refine juz ?_
                 refine juz ?_
                 refine juy (y_sub_fits rfl rfl (by simp only [fits]; omega)) ?_
                 refine ju_as (u := .int .i64 ((m - 1 : Nat) : Int)) (congrArg (Value.int .i64) (by omega)) ?_
                 refine juy (y_indexAddr_slice (off := (m - 1) * 9) rfl rfl (by omega) (by omega) (by omega)) ?_
                 refine juz ?_
                 refine juy (y_load_row rfl (by first | exact mem0 | exact mem1 | exact mem2 | exact mem3 | exact mem4 | exact mem5 | exact mem6 | exact mem7 | exact mem8 | exact mem9 | exact mem10 | exact mem11 | exact mem12) hgetp) ?_
                 refine juz ?_
                 refine juz ?_
                 refine juy (y_indexAddr_slice (off := m * 9) rfl rfl (by omega) (by omega) (by omega)) ?_
                 refine juz ?_
                 refine juy (y_load_row rfl (by first | exact mem0 | exact mem1 | exact mem2 | exact mem3 | exact mem4 | exact mem5 | exact mem6 | exact mem7 | exact mem8 | exact mem9 | exact mem10 | exact mem11 | exact mem12) (hget 1 _ rfl)) ?_
                 refine juy (y_geq rfl rfl) ?_
                 refine ju_prop (fun h231 => ?_) (fun h231 => ?_)
                 ·first
                  | (exfalso; omega)
                  | (
                   refine juy (y_pick_true rfl rfl) ?_
                   refine ju_nil ?_
                   refine jq_then ?_
                   refine jc_true rfl ?_
                   refine jsr ?_
                   refine jz ?_
                   refine jnt ?_
                   refine jc_ret ?_
                   refine jq_block_ret ?_
                   refine jq_then_ret ?_
                   refine jq_then_ret ?_
                   refine jq_block_ret ?_
                   refine jq_then_ret ?_
                   refine jq_block_ret ?_
                   refine jq_then_ret ?_
                   refine jq_then_ret ?_
                   refine jq_block_ret ?_
                   refine jq_then_ret ?_
                   refine jq_ret1 rfl rfl ?_
                   exact fun _ hw => ⟨rfl, hw.ch⟩
                   )
                 ·first
                  | (exfalso; omega)
                  | (
                   refine juy (y_pick_true rfl rfl) ?_
                   refine ju_nil ?_
                   refine jq_then ?_
                   refine jc_false rfl ?_
                   refine jc_skip ?_
                   refine jq_block ?_
                   refine jq_then ?_
                   refine jc_region ?_
                   refine jz ?_
                   refine jy (y_add_fits rfl rfl (by simp only [fits]; omega)) ?_
                   refine jz ?_
                   refine jl_nil ?_
                   refine jq_round2 (i := m) (j := a) (m + 1) (a216, c216) ?_ ?_ ?_
                   ·omega
                   ·exact ⟨rfl, rfl, rfl, rfl, rfl, by show some _ = some _; rw [hft, if_neg (by rw [show o.taken = false by assumption]; decide), List.length_append] <;> rfl, rfl, lk_int rfl (by omega), trivial⟩
                   ·exact fun _ h => ⟨by omega, h.cast (by rw [hft, if_neg (by rw [show o.taken = false by assumption]; decide), List.length_append, List.map_append] <;> rfl)⟩
                   )
                 )
               ·first
                | (exfalso; omega)
                | (
                 refine juz ?_
                 refine ju_skip rfl (by decide) rfl ?_
                 refine ju_skip rfl (by decide) rfl ?_
                 refine ju_skip rfl (by decide) rfl ?_
                 refine ju_skip rfl (by decide) rfl ?_
                 refine ju_skip rfl (by decide) rfl ?_
                 refine ju_skip rfl (by decide) rfl ?_
                 refine ju_skip rfl (by decide) rfl ?_
                 refine ju_skip rfl (by decide) rfl ?_
                 refine ju_skip rfl (by decide) rfl ?_
                 refine ju_skip rfl (by decide) rfl ?_
                 refine ju_skip rfl (by decide) rfl ?_
                 refine ju_skip rfl (by decide) rfl ?_
                 refine juy (y_pick_false rfl rfl) ?_
                 refine ju_nil ?_
                 refine jq_then ?_
                 refine jc_false rfl ?_
                 refine jc_skip ?_
                 refine jq_block ?_
                 refine jq_then ?_
                 refine jc_region ?_
                 refine jz ?_
                 refine jy (y_add_fits rfl rfl (by simp only [fits]; omega)) ?_
                 refine jz ?_
                 refine jl_nil ?_
                 refine jq_round2 (i := m) (j := a) (m + 1) (a216, c216) ?_ ?_ ?_
                 ·omega
                 ·exact ⟨rfl, rfl, rfl, rfl, rfl, by show some _ = some _; rw [hft, if_neg (by rw [show o.taken = false by assumption]; decide), List.length_append] <;> rfl, rfl, lk_int rfl (by omega), trivial⟩
                 ·exact fun _ h => ⟨by omega, h.cast (by rw [hft, if_neg (by rw [show o.taken = false by assumption]; decide), List.length_append, List.map_append] <;> rfl)⟩
                 )
              )
            ·first
             | (exfalso; omega)
             | (
              refine jnt ?_
              refine jc_false rfl ?_
              refine jc_exit ?_
              refine jq_then_exit ?_
              refine jq_then_exit ?_
              refine jq_hit ?_
              refine jq_then ?_
              refine jc_seq ?_
              have hme : m = B2.l.length := by omega
              subst hme
              have hff := free_fits hB2
              have hfl := free_len B2.l
              refine jc_region ?_
              refine jz ?_
              refine jpc (goes_func rfl) (fun w1 hw1 => r1sum_any _ _ (freeF (B2.l.take B2.l.length)) w1 (by rw [List.take_length]; exact hff.1) (by rw [List.take_length]; omega) (Ints.of_row rfl (hw1.get mem0))) ?_
              refine jz ?_
              refine jz ?_
              refine jl_as (u := .int .u64 (openL B2.l)) (congrArg (Value.int .u64) (by rw [List.take_length]; exact hff.2.2)) ?_
              refine jz ?_
              refine jl_as (u := .int .i64 0) (congrArg (Value.int .i64) (by rw [List.take_length]; exact hff.2.1)) ?_
              refine jz ?_
              refine jz ?_
              refine jnt ?_
              refine jsr ?_
              refine jz ?_
              refine jy (y_neq rfl rfl) ?_
              refine jl_prop (fun h239 => ?_) (fun h239 => ?_)
              ·first
               | (exfalso; omega)
               | (
                refine jz ?_
                refine jsk ?_
                refine jsk ?_
                refine jsk ?_
                refine jsk ?_
                refine jy (y_pick_true rfl rfl) ?_
                refine jz ?_
                refine jsk ?_
                refine jsk ?_
                refine jsk ?_
                refine jy (y_pick_true rfl rfl) ?_
                refine jnt ?_
                refine jc_true rfl ?_
                refine jsr ?_
                refine jz ?_
                refine jnt ?_
                refine jc_ret ?_
                refine jq_block_ret ?_
                refine jq_then_ret ?_
                refine jq_then_ret ?_
                refine jq_block_ret ?_
                refine jq_then_ret ?_
                refine jq_ret1 rfl rfl ?_
                exact fun _ hw => ⟨rfl, hw.ch⟩
                )
              ·first
               | (exfalso; omega)
               | (
                refine jz ?_
                refine jz ?_
                refine jpc (goes_func rfl) (fun w1 hw1 => bk_open hw1 (show BkIn _ B2 b50 p2.1 p2.2 from ⟨(by first | exact mem0 | exact mem1 | exact mem2 | exact mem3 | exact mem4 | exact mem5 | exact mem6 | exact mem7 | exact mem8 | exact mem9 | exact mem10 | exact mem11 | exact mem12), (by first | exact mem0 | exact mem1 | exact mem2 | exact mem3 | exact mem4 | exact mem5 | exact mem6 | exact mem7 | exact mem8 | exact mem9 | exact mem10 | exact mem11 | exact mem12), hB2.len⟩)) ?_
                refine jz ?_
                refine jy (y_neq rfl rfl) ?_
                refine jl_prop (fun h244 => ?_) (fun h244 => ?_)
                ·first
                 | (exfalso; omega)
                 | (
                  refine jy (y_pick_false rfl rfl) ?_
                  refine jz ?_
                  refine jsk ?_
                  refine jsk ?_
                  refine jsk ?_
                  refine jy (y_pick_true rfl rfl) ?_
                  refine jnt ?_
                  refine jc_true rfl ?_
                  refine jsr ?_
                  refine jz ?_
                  refine jnt ?_
                  refine jc_ret ?_
                  refine jq_block_ret ?_
                  refine jq_then_ret ?_
                  refine jq_then_ret ?_
                  refine jq_block_ret ?_
                  refine jq_then_ret ?_
                  refine jq_ret1 rfl rfl ?_
                  exact fun _ hw => ⟨rfl, hw.ch⟩
                  )
                ·first
                 | (exfalso; omega)
                 | (
                  refine jy (y_pick_false rfl rfl) ?_
                  refine jz ?_
                  refine jz ?_
                  refine jy (y_len_slice rfl) ?_
                  refine jy (y_gtr rfl rfl) ?_
                  refine jl_prop (fun h249 => ?_) (fun h249 => ?_)
                  ·first
                   | (exfalso; omega)
                   | (
                    refine jy (y_pick_false rfl rfl) ?_
                    refine jnt ?_
                    refine jc_true rfl ?_
                    refine jsr ?_
                    refine jz ?_
                    refine jnt ?_
                    refine jc_ret ?_
                    refine jq_block_ret ?_
                    refine jq_then_ret ?_
                    refine jq_then_ret ?_
                    refine jq_block_ret ?_
                    refine jq_then_ret ?_
                    refine jq_ret1 rfl rfl ?_
                    exact fun _ hw => ⟨rfl, hw.ch⟩
                    )
                  ·first
                   | (exfalso; omega)
                   | (
                    refine jy (y_pick_false rfl rfl) ?_
                    refine jnt ?_
                    refine jc_false rfl ?_
                    refine jc_skip ?_
                    refine jq_block ?_
                    refine jq_then ?_
                    refine jc_region ?_
                    refine jz ?_
                    refine jy (y_add_fits rfl rfl (by simp only [fits]; omega)) ?_
                    refine jz ?_
                    refine jl_nil ?_
                    refine jq_round6 (x0 := i) (x1 := B) (x2 := p) (x3 := tk) (x4 := q) (x5 := n) (i + 1) B2 p2 tk2 q2 n2 ?_ ?_ ?_
                    ·omega
                    ·exact ⟨rfl, rfl, rfl, rfl, lk_int rfl (by omega), trivial⟩
                    ·exact fun _ h => ⟨⟨by omega, by omega, hB2⟩, h.pop.pop⟩
                    )
                  )
                )
              )
          ·skip
           refine jsr ?_
           refine jz ?_
           refine jy (y_rem rfl rfl (by omega) (by omega)) ?_
           refine jnt ?_
           refine jc_block ?_
           refine jsr ?_
           refine jy (y_eql rfl rfl) ?_
           refine jl_prop (fun h82 => ?_) (fun h82 => ?_)
           ·first
            | (exfalso; omega)
            | (
             refine jz ?_
             refine jnt ?_
             refine jc_true rfl ?_
             refine jsr ?_
             refine jz ?_
             refine jpc (goes_func rfl) (fun w1 hw1 => bk_next hw1 (show BkIn _ B b50 p.1 p.2 from ⟨(by first | exact mem0 | exact mem1 | exact mem2 | exact mem3 | exact mem4 | exact mem5 | exact mem6 | exact mem7 | exact mem8 | exact mem9 | exact mem10 | exact mem11 | exact mem12), (by first | exact mem0 | exact mem1 | exact mem2 | exact mem3 | exact mem4 | exact mem5 | exact mem6 | exact mem7 | exact mem8 | exact mem9 | exact mem10 | exact mem11 | exact mem12), hB.len⟩)) ?_
             refine jz ?_
             refine jl_fcall rfl (by decide) rfl (goes_func rfl) (fun w1 hw1 => bk_offers hw1 (show BkIn _ B b50 p.1 p.2 from ⟨(by first | exact mem0 | exact mem1 | exact mem2 | exact mem3 | exact mem4 | exact mem5 | exact mem6 | exact mem7 | exact mem8 | exact mem9 | exact mem10 | exact mem11 | exact mem12), (by first | exact mem0 | exact mem1 | exact mem2 | exact mem3 | exact mem4 | exact mem5 | exact mem6 | exact mem7 | exact mem8 | exact mem9 | exact mem10 | exact mem11 | exact mem12), hB.len⟩)) (fun b86 => ?_)
             refine jy (y_len_slice rfl) ?_
             refine jz ?_
             refine jz ?_
             refine jnt ?_
             refine jc_seq ?_
             rcases once_two hB (by omega) hfc with ⟨hl8, hmk⟩ | ⟨hl8, hfu⟩
             ·skip
              refine jc_region ?_
              refine jz ?_
              refine jz ?_
              refine jy (y_rem rfl rfl (by omega) (by omega)) ?_
              refine jy (y_add_u64 rfl rfl) ?_
              refine jl_as (u := .int .u64 (1 + c % 100)) (congrArg (Value.int .u64) (by omega)) ?_
              refine jz ?_
              refine jl_bcall (B := B) (B' := (oMk B c)) (b := b50) (ad := p.1) (c := p.2) (v := .tuple #[.agg (Of.c (oNew B c)).toArray, .int .i64 0]) rfl (by decide) rfl (goes_func rfl) (fun w1 hw1 => cb (bk_make hw1 (show BkIn _ B b50 p.1 p.2 from ⟨(by first | exact mem0 | exact mem1 | exact mem2 | exact mem3 | exact mem4 | exact mem5 | exact mem6 | exact mem7 | exact mem8 | exact mem9 | exact mem10 | exact mem11 | exact mem12), (by first | exact mem0 | exact mem1 | exact mem2 | exact mem3 | exact mem4 | exact mem5 | exact mem6 | exact mem7 | exact mem8 | exact mem9 | exact mem10 | exact mem11 | exact mem12), hB.len⟩) hB.fit (1 + c % 100) 1 1 strOn c (by simp only [fits]; omega) ⟨by decide, by decide⟩ ⟨by decide, by decide⟩ hfc (by decide)) (by rw [hmk.1, hmk.2.1]) rfl) (fun _ => (by first | exact rep0 | exact rep1 | exact rep2 | exact rep3 | exact rep4 | exact rep5 | exact rep6 | exact rep7 | exact rep8 | exact rep9 | exact rep10 | exact rep11 | exact rep12)) (fun _ => (by first | exact rep0 | exact rep1 | exact rep2 | exact rep3 | exact rep4 | exact rep5 | exact rep6 | exact rep7 | exact rep8 | exact rep9 | exact rep10 | exact rep11 | exact rep12)) (fun pm => ?_)
              refine jz ?_
              refine jz ?_
              refine jz ?_
              refine jl_m rfl (by decide) rfl (m_alloc) (fun b14 => ?_)
              refine jst ?_
              refine jz ?_
              refine jnt ?_
              refine jsr ?_
              refine jz ?_
              refine jy (y_eql rfl rfl) ?_
              refine jl_prop (fun h98 => ?_) (fun h98 => ?_)
              ·first
               | (exfalso; omega)
               | (
                refine jz ?_
                refine jy (y_lss rfl rfl) ?_
                refine jl_prop (fun h100 => ?_) (fun h100 => ?_)
                ·first
                 | (exfalso; omega)
                 | (
                  refine jy (y_neq_bool rfl rfl) ?_
                  refine jl_as (u := .bool false) rfl ?_
                  refine jz ?_
                  refine jz ?_
                  refine jy (y_eql rfl rfl) ?_
                  refine jl_prop (fun h104 => ?_) (fun h104 => ?_)
                  ·first
                   | (exfalso; omega)
                   | (
                    refine jz ?_
                    refine jz ?_
                    refine jz ?_
                    refine jl_as (u := .int .u64 B.next) rfl ?_
                    refine jz ?_
                    refine jy (y_neq rfl rfl) ?_
                    refine jl_prop (fun h109 => ?_) (fun h109 => ?_)
                    ·first
                     | (exfalso; omega)
                     | (
                      refine jz ?_
                      refine jsk ?_
                      refine jsk ?_
                      refine jsk ?_
                      refine jsk ?_
                      refine jsk ?_
                      refine jy (y_pick_true rfl rfl) ?_
                      refine jy (y_pick_true rfl rfl) ?_
                      refine jy (y_pick_false rfl rfl) ?_
                      refine jnt ?_
                      refine jc_true rfl ?_
                      refine jsr ?_
                      refine jz ?_
                      refine jnt ?_
                      refine jc_ret ?_
                      refine jq_block_ret ?_
                      refine jq_then_ret ?_
                      refine jq_block_ret ?_
                      refine jq_then_ret ?_
                      refine jq_then_ret ?_
                      refine jq_block_ret ?_
                      refine jq_then_ret ?_
                      refine jq_ret1 rfl rfl ?_
                      exact fun _ hw => ⟨rfl, hw.ch⟩
                      )
                    ·first
                     | (exfalso; omega)
                     | (
                      refine jz ?_
                      refine jz ?_
                      refine jpc (goes_func rfl) (fun w1 hw1 => bk_next hw1 (show BkIn _ (oMk B c) b50 pm.1 pm.2 from ⟨(by first | exact mem0 | exact mem1 | exact mem2 | exact mem3 | exact mem4 | exact mem5 | exact mem6 | exact mem7 | exact mem8 | exact mem9 | exact mem10 | exact mem11 | exact mem12), (by first | exact mem0 | exact mem1 | exact mem2 | exact mem3 | exact mem4 | exact mem5 | exact mem6 | exact mem7 | exact mem8 | exact mem9 | exact mem10 | exact mem11 | exact mem12), hmk.2.2.2.len⟩)) ?_
                      refine jl_as (u := .int .u64 (B.next + 1)) (congrArg (Value.int .u64) hmk.2.2.1) ?_
                      refine jz ?_
                      refine jy (y_add_u64 rfl rfl) ?_
                      refine jl_as (u := .int .u64 (B.next + 1)) (congrArg (Value.int .u64) (by have := hB.next; have := hB.onc.ok.one; omega)) ?_
                      refine jy (y_neq rfl rfl) ?_
                      refine jl_prop (fun h115 => ?_) (fun h115 => ?_)
                      ·first
                       | (exfalso; omega)
                       | (
                        refine jy (y_pick_false rfl rfl) ?_
                        refine jy (y_pick_true rfl rfl) ?_
                        refine jy (y_pick_false rfl rfl) ?_
                        refine jnt ?_
                        refine jc_true rfl ?_
                        refine jsr ?_
                        refine jz ?_
                        refine jnt ?_
                        refine jc_ret ?_
                        refine jq_block_ret ?_
                        refine jq_then_ret ?_
                        refine jq_block_ret ?_
                        refine jq_then_ret ?_
                        refine jq_then_ret ?_
                        refine jq_block_ret ?_
                        refine jq_then_ret ?_
                        refine jq_ret1 rfl rfl ?_
                        exact fun _ hw => ⟨rfl, hw.ch⟩
                        )
                      ·first
                       | (exfalso; omega)
                       | (
                        refine jy (y_pick_false rfl rfl) ?_
                        refine jy (y_pick_true rfl rfl) ?_
                        refine jy (y_pick_false rfl rfl) ?_
                        refine jnt ?_
                        refine jc_false rfl ?_
                        refine jc_skip ?_
                        refine jq_block ?_
                        refine jq_joinI5 (oMk B c) pm tk q n ?_ ?_
                        ·exact ⟨rfl, rfl, rfl, rfl, rfl, trivial⟩
                        ·exact fun _ h => ⟨hmk.2.2.2, h.pop.pop⟩
                        )
                      )
                    )
                  ·first
                   | (exfalso; omega)
                   | (
                    refine jz ?_
                    refine jsk ?_
                    refine jsk ?_
                    refine jsk ?_
                    refine jsk ?_
                    refine jsk ?_
                    refine jsk ?_
                    refine jsk ?_
                    refine jsk ?_
                    refine jsk ?_
                    refine jsk ?_
                    refine jsk ?_
                    refine jy (y_pick_false rfl rfl) ?_
                    refine jy (y_pick_false rfl rfl) ?_
                    refine jnt ?_
                    refine jc_false rfl ?_
                    refine jc_skip ?_
                    refine jq_block ?_
                    refine jq_joinI5 (oMk B c) pm tk q n ?_ ?_
                    ·exact ⟨rfl, rfl, rfl, rfl, rfl, trivial⟩
                    ·exact fun _ h => ⟨hmk.2.2.2, h.pop.pop⟩
                    )
                  )
                ·first
                 | (exfalso; omega)
                 | (
                  refine jy (y_neq_bool rfl rfl) ?_
                  refine jl_as (u := .bool true) rfl ?_
                  refine jz ?_
                  refine jsk ?_
                  refine jsk ?_
                  refine jsk ?_
                  refine jsk ?_
                  refine jsk ?_
                  refine jsk ?_
                  refine jsk ?_
                  refine jsk ?_
                  refine jsk ?_
                  refine jsk ?_
                  refine jsk ?_
                  refine jsk ?_
                  refine jsk ?_
                  refine jsk ?_
                  refine jsk ?_
                  refine jy (y_pick_true rfl rfl) ?_
                  refine jnt ?_
                  refine jc_true rfl ?_
                  refine jsr ?_
                  refine jz ?_
                  refine jnt ?_
                  refine jc_ret ?_
                  refine jq_block_ret ?_
                  refine jq_then_ret ?_
                  refine jq_block_ret ?_
                  refine jq_then_ret ?_
                  refine jq_then_ret ?_
                  refine jq_block_ret ?_
                  refine jq_then_ret ?_
                  refine jq_ret1 rfl rfl ?_
                  exact fun _ hw => ⟨rfl, hw.ch⟩
                  )
                )
              ·first
               | (exfalso; omega)
               | (
                refine jz ?_
                refine jy (y_lss rfl rfl) ?_
                refine jl_prop (fun h100 => ?_) (fun h100 => ?_)
                ·first
                 | (exfalso; omega)
                 | (
                  refine jy (y_neq_bool rfl rfl) ?_
                  refine jl_as (u := .bool true) rfl ?_
                  refine jz ?_
                  refine jsk ?_
                  refine jsk ?_
                  refine jsk ?_
                  refine jsk ?_
                  refine jsk ?_
                  refine jsk ?_
                  refine jsk ?_
                  refine jsk ?_
                  refine jsk ?_
                  refine jsk ?_
                  refine jsk ?_
                  refine jsk ?_
                  refine jsk ?_
                  refine jsk ?_
                  refine jsk ?_
                  refine jy (y_pick_true rfl rfl) ?_
                  refine jnt ?_
                  refine jc_true rfl ?_
                  refine jsr ?_
                  refine jz ?_
                  refine jnt ?_
                  refine jc_ret ?_
                  refine jq_block_ret ?_
                  refine jq_then_ret ?_
                  refine jq_block_ret ?_
                  refine jq_then_ret ?_
                  refine jq_then_ret ?_
                  refine jq_block_ret ?_
                  refine jq_then_ret ?_
                  refine jq_ret1 rfl rfl ?_
                  exact fun _ hw => ⟨rfl, hw.ch⟩
                  )
                ·first
                 | (exfalso; omega)
                 | (
                  refine jy (y_neq_bool rfl rfl) ?_
                  refine jl_as (u := .bool false) rfl ?_
                  refine jz ?_
                  refine jz ?_
                  refine jy (y_eql rfl rfl) ?_
                  refine jl_prop (fun h104 => ?_) (fun h104 => ?_)
                  ·first
                   | (exfalso; omega)
                   | (
                    refine jz ?_
                    refine jz ?_
                    refine jz ?_
                    refine jl_as (u := .int .u64 B.next) rfl ?_
                    refine jz ?_
                    refine jy (y_neq rfl rfl) ?_
                    refine jl_prop (fun h109 => ?_) (fun h109 => ?_)
                    ·first
                     | (exfalso; omega)
                     | (
                      refine jz ?_
                      refine jsk ?_
                      refine jsk ?_
                      refine jsk ?_
                      refine jsk ?_
                      refine jsk ?_
                      refine jy (y_pick_true rfl rfl) ?_
                      refine jy (y_pick_true rfl rfl) ?_
                      refine jy (y_pick_false rfl rfl) ?_
                      refine jnt ?_
                      refine jc_true rfl ?_
                      refine jsr ?_
                      refine jz ?_
                      refine jnt ?_
                      refine jc_ret ?_
                      refine jq_block_ret ?_
                      refine jq_then_ret ?_
                      refine jq_block_ret ?_
                      refine jq_then_ret ?_
                      refine jq_then_ret ?_
                      refine jq_block_ret ?_
                      refine jq_then_ret ?_
                      refine jq_ret1 rfl rfl ?_
                      exact fun _ hw => ⟨rfl, hw.ch⟩
                      )
                    ·first
                     | (exfalso; omega)
                     | (
                      refine jz ?_
                      refine jz ?_
                      refine jpc (goes_func rfl) (fun w1 hw1 => bk_next hw1 (show BkIn _ (oMk B c) b50 pm.1 pm.2 from ⟨(by first | exact mem0 | exact mem1 | exact mem2 | exact mem3 | exact mem4 | exact mem5 | exact mem6 | exact mem7 | exact mem8 | exact mem9 | exact mem10 | exact mem11 | exact mem12), (by first | exact mem0 | exact mem1 | exact mem2 | exact mem3 | exact mem4 | exact mem5 | exact mem6 | exact mem7 | exact mem8 | exact mem9 | exact mem10 | exact mem11 | exact mem12), hmk.2.2.2.len⟩)) ?_
                      refine jl_as (u := .int .u64 (B.next + 1)) (congrArg (Value.int .u64) hmk.2.2.1) ?_
                      refine jz ?_
                      refine jy (y_add_u64 rfl rfl) ?_
                      refine jl_as (u := .int .u64 (B.next + 1)) (congrArg (Value.int .u64) (by have := hB.next; have := hB.onc.ok.one; omega)) ?_
                      refine jy (y_neq rfl rfl) ?_
                      refine jl_prop (fun h115 => ?_) (fun h115 => ?_)
                      ·first
                       | (exfalso; omega)
                       | (
                        refine jy (y_pick_false rfl rfl) ?_
                        refine jy (y_pick_true rfl rfl) ?_
                        refine jy (y_pick_false rfl rfl) ?_
                        refine jnt ?_
                        refine jc_true rfl ?_
                        refine jsr ?_
                        refine jz ?_
                        refine jnt ?_
                        refine jc_ret ?_
                        refine jq_block_ret ?_
                        refine jq_then_ret ?_
                        refine jq_block_ret ?_
                        refine jq_then_ret ?_
                        refine jq_then_ret ?_
                        refine jq_block_ret ?_
                        refine jq_then_ret ?_
                        refine jq_ret1 rfl rfl ?_
                        exact fun _ hw => ⟨rfl, hw.ch⟩
                        )
                      ·first
                       | (exfalso; omega)
                       | (
                        refine jy (y_pick_false rfl rfl) ?_
                        refine jy (y_pick_true rfl rfl) ?_
                        refine jy (y_pick_false rfl rfl) ?_
                        refine jnt ?_
                        refine jc_false rfl ?_
                        refine jc_skip ?_
                        refine jq_block ?_
                        refine jq_joinI5 (oMk B c) pm tk q n ?_ ?_
                        ·exact ⟨rfl, rfl, rfl, rfl, rfl, trivial⟩
                        ·exact fun _ h => ⟨hmk.2.2.2, h.pop.pop⟩
                        )
                      )
                    )
                  ·first
                   | (exfalso; omega)
                   | (
                    refine jz ?_
                    refine jsk ?_
                    refine jsk ?_
                    refine jsk ?_
                    refine jsk ?_
                    refine jsk ?_
                    refine jsk ?_
                    refine jsk ?_
                    refine jsk ?_
                    refine jsk ?_
                    refine jsk ?_
                    refine jsk ?_
                    refine jy (y_pick_false rfl rfl) ?_
                    refine jy (y_pick_false rfl rfl) ?_
                    refine jnt ?_
                    refine jc_false rfl ?_
                    refine jc_skip ?_
                    refine jq_block ?_
                    refine jq_joinI5 (oMk B c) pm tk q n ?_ ?_
                    ·exact ⟨rfl, rfl, rfl, rfl, rfl, trivial⟩
                    ·exact fun _ h => ⟨hmk.2.2.2, h.pop.pop⟩
                    )
                  )
                )
             ·skip
              refine jc_region ?_
              refine jz ?_
              refine jz ?_
              refine jy (y_rem rfl rfl (by omega) (by omega)) ?_
              refine jy (y_add_u64 rfl rfl) ?_
              refine jl_as (u := .int .u64 (1 + c % 100)) (congrArg (Value.int .u64) (by omega)) ?_
              refine jz ?_
              refine jl_bcall (B := B) (B' := B) (b := b50) (ad := p.1) (c := p.2) (v := .tuple #[.agg (Of.c of0).toArray, .int .i64 9]) rfl (by decide) rfl (goes_func rfl) (fun w1 hw1 => cb (bk_make hw1 (show BkIn _ B b50 p.1 p.2 from ⟨(by first | exact mem0 | exact mem1 | exact mem2 | exact mem3 | exact mem4 | exact mem5 | exact mem6 | exact mem7 | exact mem8 | exact mem9 | exact mem10 | exact mem11 | exact mem12), (by first | exact mem0 | exact mem1 | exact mem2 | exact mem3 | exact mem4 | exact mem5 | exact mem6 | exact mem7 | exact mem8 | exact mem9 | exact mem10 | exact mem11 | exact mem12), hB.len⟩) hB.fit (1 + c % 100) 1 1 strOn c (by simp only [fits]; omega) ⟨by decide, by decide⟩ ⟨by decide, by decide⟩ hfc (by decide)) (by rw [hfu.1, hfu.2.1]) hfu.2.2) (fun _ => (by first | exact rep0 | exact rep1 | exact rep2 | exact rep3 | exact rep4 | exact rep5 | exact rep6 | exact rep7 | exact rep8 | exact rep9 | exact rep10 | exact rep11 | exact rep12)) (fun _ => (by first | exact rep0 | exact rep1 | exact rep2 | exact rep3 | exact rep4 | exact rep5 | exact rep6 | exact rep7 | exact rep8 | exact rep9 | exact rep10 | exact rep11 | exact rep12)) (fun pm => ?_)
              refine jz ?_
              refine jz ?_
              refine jz ?_
              refine jl_m rfl (by decide) rfl (m_alloc) (fun b14 => ?_)
              refine jst ?_
              refine jz ?_
              refine jnt ?_
              refine jsr ?_
              refine jz ?_
              refine jy (y_eql rfl rfl) ?_
              refine jl_prop (fun h98 => ?_) (fun h98 => ?_)
              ·first
               | (exfalso; omega)
               | (
                refine jz ?_
                refine jy (y_lss rfl rfl) ?_
                refine jl_prop (fun h100 => ?_) (fun h100 => ?_)
                ·first
                 | (exfalso; omega)
                 | (
                  refine jy (y_neq_bool rfl rfl) ?_
                  refine jl_as (u := .bool false) rfl ?_
                  refine jz ?_
                  refine jz ?_
                  refine jy (y_eql rfl rfl) ?_
                  refine jl_prop (fun h104 => ?_) (fun h104 => ?_)
                  ·first
                   | (exfalso; omega)
                   | (
                    refine jz ?_
                    refine jz ?_
                    refine jz ?_
                    refine jl_as (u := .int .u64 B.next) rfl ?_
                    refine jz ?_
                    refine jy (y_neq rfl rfl) ?_
                    refine jl_prop (fun h109 => ?_) (fun h109 => ?_)
                    ·first
                     | (exfalso; omega)
                     | (
                      refine jz ?_
                      refine jsk ?_
                      refine jsk ?_
                      refine jsk ?_
                      refine jsk ?_
                      refine jsk ?_
                      refine jy (y_pick_true rfl rfl) ?_
                      refine jy (y_pick_true rfl rfl) ?_
                      refine jy (y_pick_false rfl rfl) ?_
                      refine jnt ?_
                      refine jc_true rfl ?_
                      refine jsr ?_
                      refine jz ?_
                      refine jnt ?_
                      refine jc_ret ?_
                      refine jq_block_ret ?_
                      refine jq_then_ret ?_
                      refine jq_block_ret ?_
                      refine jq_then_ret ?_
                      refine jq_then_ret ?_
                      refine jq_block_ret ?_
                      refine jq_then_ret ?_
                      refine jq_ret1 rfl rfl ?_
                      exact fun _ hw => ⟨rfl, hw.ch⟩
                      )
                    ·first
                     | (exfalso; omega)
                     | (
                      refine jz ?_
                      refine jz ?_
                      refine jpc (goes_func rfl) (fun w1 hw1 => bk_next hw1 (show BkIn _ (oMk B c) b50 pm.1 pm.2 from ⟨(by first | exact mem0 | exact mem1 | exact mem2 | exact mem3 | exact mem4 | exact mem5 | exact mem6 | exact mem7 | exact mem8 | exact mem9 | exact mem10 | exact mem11 | exact mem12), (by first | exact mem0 | exact mem1 | exact mem2 | exact mem3 | exact mem4 | exact mem5 | exact mem6 | exact mem7 | exact mem8 | exact mem9 | exact mem10 | exact mem11 | exact mem12), hmk.2.2.2.len⟩)) ?_
                      refine jl_as (u := .int .u64 (B.next + 1)) (congrArg (Value.int .u64) hmk.2.2.1) ?_
                      refine jz ?_
                      refine jy (y_add_u64 rfl rfl) ?_
                      refine jl_as (u := .int .u64 (B.next + 1)) (congrArg (Value.int .u64) (by have := hB.next; have := hB.onc.ok.one; omega)) ?_
                      refine jy (y_neq rfl rfl) ?_
                      refine jl_prop (fun h115 => ?_) (fun h115 => ?_)
                      ·first
                       | (exfalso; omega)
                       | (
                        refine jy (y_pick_false rfl rfl) ?_
                        refine jy (y_pick_true rfl rfl) ?_
                        refine jy (y_pick_false rfl rfl) ?_
                        refine jnt ?_
                        refine jc_true rfl ?_
                        refine jsr ?_
                        refine jz ?_
                        refine jnt ?_
                        refine jc_ret ?_
                        refine jq_block_ret ?_
                        refine jq_then_ret ?_
                        refine jq_block_ret ?_
                        refine jq_then_ret ?_
                        refine jq_then_ret ?_
                        refine jq_block_ret ?_
                        refine jq_then_ret ?_
                        refine jq_ret1 rfl rfl ?_
                        exact fun _ hw => ⟨rfl, hw.ch⟩
                        )
                      ·first
                       | (exfalso; omega)
                       | (
                        refine jy (y_pick_false rfl rfl) ?_
                        refine jy (y_pick_true rfl rfl) ?_
                        refine jy (y_pick_false rfl rfl) ?_
                        refine jnt ?_
                        refine jc_false rfl ?_
                        refine jc_skip ?_
                        refine jq_block ?_
                        refine jq_joinI5 B pm tk q n ?_ ?_
                        ·exact ⟨rfl, rfl, rfl, rfl, rfl, trivial⟩
                        ·exact fun _ h => ⟨hB.more, h.pop.pop⟩
                        )
                      )
                    )
                  ·first
                   | (exfalso; omega)
                   | (
                    refine jz ?_
                    refine jsk ?_
                    refine jsk ?_
                    refine jsk ?_
                    refine jsk ?_
                    refine jsk ?_
                    refine jsk ?_
                    refine jsk ?_
                    refine jsk ?_
                    refine jsk ?_
                    refine jsk ?_
                    refine jsk ?_
                    refine jy (y_pick_false rfl rfl) ?_
                    refine jy (y_pick_false rfl rfl) ?_
                    refine jnt ?_
                    refine jc_false rfl ?_
                    refine jc_skip ?_
                    refine jq_block ?_
                    refine jq_joinI5 B pm tk q n ?_ ?_
                    ·exact ⟨rfl, rfl, rfl, rfl, rfl, trivial⟩
                    ·exact fun _ h => ⟨hB.more, h.pop.pop⟩
                    )
                  )
                ·first
                 | (exfalso; omega)
                 | (
                  refine jy (y_neq_bool rfl rfl) ?_
                  refine jl_as (u := .bool true) rfl ?_
                  refine jz ?_
                  refine jsk ?_
                  refine jsk ?_
                  refine jsk ?_
                  refine jsk ?_
                  refine jsk ?_
                  refine jsk ?_
                  refine jsk ?_
                  refine jsk ?_
                  refine jsk ?_
                  refine jsk ?_
                  refine jsk ?_
                  refine jsk ?_
                  refine jsk ?_
                  refine jsk ?_
                  refine jsk ?_
                  refine jy (y_pick_true rfl rfl) ?_
                  refine jnt ?_
                  refine jc_true rfl ?_
                  refine jsr ?_
                  refine jz ?_
                  refine jnt ?_
                  refine jc_ret ?_
                  refine jq_block_ret ?_
                  refine jq_then_ret ?_
                  refine jq_block_ret ?_
                  refine jq_then_ret ?_
                  refine jq_then_ret ?_
                  refine jq_block_ret ?_
                  refine jq_then_ret ?_
                  refine jq_ret1 rfl rfl ?_
                  exact fun _ hw => ⟨rfl, hw.ch⟩
                  )
                )
              ·first
               | (exfalso; omega)
               | (
                refine jz ?_
                refine jy (y_lss rfl rfl) ?_
                refine jl_prop (fun h100 => ?_) (fun h100 => ?_)
                ·first
                 | (exfalso; omega)
                 | (
                  refine jy (y_neq_bool rfl rfl) ?_
                  refine jl_as (u := .bool true) rfl ?_
                  refine jz ?_
                  refine jsk ?_
                  refine jsk ?_
                  refine jsk ?_
                  refine jsk ?_
                  refine jsk ?_
                  refine jsk ?_
                  refine jsk ?_
                  refine jsk ?_
                  refine jsk ?_
                  refine jsk ?_
                  refine jsk ?_
                  refine jsk ?_
                  refine jsk ?_
                  refine jsk ?_
                  refine jsk ?_
                  refine jy (y_pick_true rfl rfl) ?_
                  refine jnt ?_
                  refine jc_true rfl ?_
                  refine jsr ?_
                  refine jz ?_
                  refine jnt ?_
                  refine jc_ret ?_
                  refine jq_block_ret ?_
                  refine jq_then_ret ?_
                  refine jq_block_ret ?_
                  refine jq_then_ret ?_
                  refine jq_then_ret ?_
                  refine jq_block_ret ?_
                  refine jq_then_ret ?_
                  refine jq_ret1 rfl rfl ?_
                  exact fun _ hw => ⟨rfl, hw.ch⟩
                  )
                ·first
                 | (exfalso; omega)
                 | (
                  refine jy (y_neq_bool rfl rfl) ?_
                  refine jl_as (u := .bool false) rfl ?_
                  refine jz ?_
                  refine jz ?_
                  refine jy (y_eql rfl rfl) ?_
                  refine jl_prop (fun h104 => ?_) (fun h104 => ?_)
                  ·first
                   | (exfalso; omega)
                   | (
                    refine jz ?_
                    refine jz ?_
                    refine jz ?_
                    refine jl_as (u := .int .u64 B.next) rfl ?_
                    refine jz ?_
                    refine jy (y_neq rfl rfl) ?_
                    refine jl_prop (fun h109 => ?_) (fun h109 => ?_)
                    ·first
                     | (exfalso; omega)
                     | (
                      refine jz ?_
                      refine jsk ?_
                      refine jsk ?_
                      refine jsk ?_
                      refine jsk ?_
                      refine jsk ?_
                      refine jy (y_pick_true rfl rfl) ?_
                      refine jy (y_pick_true rfl rfl) ?_
                      refine jy (y_pick_false rfl rfl) ?_
                      refine jnt ?_
                      refine jc_true rfl ?_
                      refine jsr ?_
                      refine jz ?_
                      refine jnt ?_
                      refine jc_ret ?_
                      refine jq_block_ret ?_
                      refine jq_then_ret ?_
                      refine jq_block_ret ?_
                      refine jq_then_ret ?_
                      refine jq_then_ret ?_
                      refine jq_block_ret ?_
                      refine jq_then_ret ?_
                      refine jq_ret1 rfl rfl ?_
                      exact fun _ hw => ⟨rfl, hw.ch⟩
                      )
                    ·first
                     | (exfalso; omega)
                     | (
                      refine jz ?_
                      refine jz ?_
                      refine jpc (goes_func rfl) (fun w1 hw1 => bk_next hw1 (show BkIn _ (oMk B c) b50 pm.1 pm.2 from ⟨(by first | exact mem0 | exact mem1 | exact mem2 | exact mem3 | exact mem4 | exact mem5 | exact mem6 | exact mem7 | exact mem8 | exact mem9 | exact mem10 | exact mem11 | exact mem12), (by first | exact mem0 | exact mem1 | exact mem2 | exact mem3 | exact mem4 | exact mem5 | exact mem6 | exact mem7 | exact mem8 | exact mem9 | exact mem10 | exact mem11 | exact mem12), hmk.2.2.2.len⟩)) ?_
                      refine jl_as (u := .int .u64 (B.next + 1)) (congrArg (Value.int .u64) hmk.2.2.1) ?_
                      refine jz ?_
                      refine jy (y_add_u64 rfl rfl) ?_
                      refine jl_as (u := .int .u64 (B.next + 1)) (congrArg (Value.int .u64) (by have := hB.next; have := hB.onc.ok.one; omega)) ?_
                      refine jy (y_neq rfl rfl) ?_
                      refine jl_prop (fun h115 => ?_) (fun h115 => ?_)
                      ·first
                       | (exfalso; omega)
                       | (
                        refine jy (y_pick_false rfl rfl) ?_
                        refine jy (y_pick_true rfl rfl) ?_
                        refine jy (y_pick_false rfl rfl) ?_
                        refine jnt ?_
                        refine jc_true rfl ?_
                        refine jsr ?_
                        refine jz ?_
                        refine jnt ?_
                        refine jc_ret ?_
                        refine jq_block_ret ?_
                        refine jq_then_ret ?_
                        refine jq_block_ret ?_
                        refine jq_then_ret ?_
                        refine jq_then_ret ?_
                        refine jq_block_ret ?_
                        refine jq_then_ret ?_
                        refine jq_ret1 rfl rfl ?_
                        exact fun _ hw => ⟨rfl, hw.ch⟩
                        )
                      ·first
                       | (exfalso; omega)
                       | (
                        refine jy (y_pick_false rfl rfl) ?_
                        refine jy (y_pick_true rfl rfl) ?_
                        refine jy (y_pick_false rfl rfl) ?_
                        refine jnt ?_
                        refine jc_false rfl ?_
                        refine jc_skip ?_
                        refine jq_block ?_
                        refine jq_joinI5 B pm tk q n ?_ ?_
                        ·exact ⟨rfl, rfl, rfl, rfl, rfl, trivial⟩
                        ·exact fun _ h => ⟨hB.more, h.pop.pop⟩
                        )
                      )
                    )
                  ·first
                   | (exfalso; omega)
                   | (
                    refine jz ?_
                    refine jsk ?_
                    refine jsk ?_
                    refine jsk ?_
                    refine jsk ?_
                    refine jsk ?_
                    refine jsk ?_
                    refine jsk ?_
                    refine jsk ?_
                    refine jsk ?_
                    refine jsk ?_
                    refine jsk ?_
                    refine jy (y_pick_false rfl rfl) ?_
                    refine jy (y_pick_false rfl rfl) ?_
                    refine jnt ?_
                    refine jc_false rfl ?_
                    refine jc_skip ?_
                    refine jq_block ?_
                    refine jq_joinI5 B pm tk q n ?_ ?_
                    ·exact ⟨rfl, rfl, rfl, rfl, rfl, trivial⟩
                    ·exact fun _ h => ⟨hB.more, h.pop.pop⟩
                    )
                  )
                )
             )
           ·first
            | (exfalso; omega)
            | (
             refine jz ?_
             refine jnt ?_
             refine jc_false rfl ?_
             refine jsr ?_
             refine jy (y_eql rfl rfl) ?_
             refine jl_prop (fun h120 => ?_) (fun h120 => ?_)
             ·first
              | (exfalso; omega)
              | (
               refine jz ?_
               refine jnt ?_
               refine jc_true rfl ?_
               refine jsr ?_
               refine jz ?_
               refine jl_fcall rfl (by decide) rfl (goes_func rfl) (fun w1 hw1 => bk_offers hw1 (show BkIn _ B b50 p.1 p.2 from ⟨(by first | exact mem0 | exact mem1 | exact mem2 | exact mem3 | exact mem4 | exact mem5 | exact mem6 | exact mem7 | exact mem8 | exact mem9 | exact mem10 | exact mem11 | exact mem12), (by first | exact mem0 | exact mem1 | exact mem2 | exact mem3 | exact mem4 | exact mem5 | exact mem6 | exact mem7 | exact mem8 | exact mem9 | exact mem10 | exact mem11 | exact mem12), hB.len⟩)) (fun b122 => ?_)
               refine jz ?_
               refine jnt ?_
               refine jc_seq ?_
               refine jsr ?_
               refine jz ?_
               refine jy (y_len_slice rfl) ?_
               refine jy (y_eql rfl rfl) ?_
               refine jl_prop (fun h125 => ?_) (fun h125 => ?_)
               ·first
                | (exfalso; omega)
                | (
                 refine jnt ?_
                 refine jc_true rfl ?_
                 refine jc_exit ?_
                 refine jq_then_exit ?_
                 refine jq_miss rfl ?_
                 refine jq_then_exit ?_
                 refine jq_hit ?_
                 refine jq_then ?_
                 refine jc_region ?_
                 refine jz ?_
                 refine jy (y_add_fits rfl rfl (by simp only [fits]; omega)) ?_
                 refine jz ?_
                 refine jl_nil ?_
                 refine jq_round6 (x0 := i) (x1 := B) (x2 := p) (x3 := tk) (x4 := q) (x5 := n) (i + 1) B p tk q n ?_ ?_ ?_
                 ·omega
                 ·exact ⟨rfl, rfl, rfl, rfl, lk_int rfl (by omega), trivial⟩
                 ·exact fun _ h => ⟨⟨by omega, by omega, hB.more⟩, h.pop⟩
                 )
               ·first
                | (exfalso; omega)
                | (
                 obtain ⟨j, hj⟩ : ∃ j : Nat, c / 3 % (B.l.length : Int) = j := ⟨(c / 3 % (B.l.length : Int)).toNat, by have := Int.emod_nonneg (c / 3) (show (B.l.length : Int) ≠ 0 by omega); omega⟩
                 have hjl : j < B.l.length := by have := Int.emod_lt_of_pos (c / 3) (show 0 < (B.l.length : Int) by omega); omega
                 have hget := flat_at hjl rfl
                 obtain ⟨ht1, ht2, ht3⟩ := once_take (c := c) hB hjl rfl
                 have hfo := hB.fit.l _ (List.getElem_mem hjl)
                 have hfs := hB.fit.low _ (List.getElem_mem hjl)
                 generalize hoe : B.l[j]'hjl = o at *
                 refine jnt ?_
                 refine jc_false rfl ?_
                 refine jc_skip ?_
                 refine jq_then ?_
                 refine jsr ?_
                 refine jz ?_
                 refine jz ?_
                 refine jy (y_quo rfl rfl (by omega) (by omega) (by simp only [fits]; omega)) ?_
                 refine jz ?_
                 refine jy (y_len_slice rfl) ?_
                 first | refine jy (y_conv_fits rfl (by simp only [fits]; omega)) ?_ | refine jy (y_conv_u64 rfl) ?_
                 refine jl_as (u := .int .u64 (B.l.length : Nat)) (congrArg (Value.int .u64) (by omega)) ?_
                 refine jy (y_rem rfl rfl (by omega) (by omega)) ?_
                 refine jl_as (u := .int .u64 (j : Nat)) (congrArg (Value.int .u64) hj) ?_
                 refine jy (y_indexAddr_slice (off := j * 9) rfl rfl (by omega) (by omega) (by omega)) ?_
                 refine jy (y_loadAgg_row (us := Of.c o) rfl mem0 rfl hget) ?_
                 refine jz ?_
                 refine jpc (goes_func rfl) (fun w1 hw1 => lticket_any o c w1) ?_
                 refine jl_m rfl (by decide) rfl (m_alloc) (fun b17 => ?_)
                 refine jst ?_
                 refine jnt ?_
                 refine jsr ?_
                 refine jz ?_
                 refine jz ?_
                 refine jpc (goes_func rfl) (fun w1 hw1 => text_any (tkOf o c) w1 ⟨hfo.serial, hfo.face, hfo.wins, hfo.many, hfc⟩ (by show o.chan.size ≤ _; omega) (by show o.commit.size ≤ _; omega)) ?_
                 refine jl_ucallH rfl (by decide) rfl (goes_func rfl) (A := kyC kb.1.2 3 (n : Nat)) (A' := kyC kb.1.2 3 (sgN n : Nat)) (by rfl) (fun w1 hw1 => ksign_two (p := kb.2) (n := n) hw1 (by first | exact mem0 | exact mem1 | exact mem2 | exact mem3 | exact mem4 | exact mem5 | exact mem6 | exact mem7 | exact mem8 | exact mem9 | exact mem10 | exact mem11 | exact mem12) (by first | exact mem0 | exact mem1 | exact mem2 | exact mem3 | exact mem4 | exact mem5 | exact mem6 | exact mem7 | exact mem8 | exact mem9 | exact mem10 | exact mem11 | exact mem12) (by first | exact mem0 | exact mem1 | exact mem2 | exact mem3 | exact mem4 | exact mem5 | exact mem6 | exact mem7 | exact mem8 | exact mem9 | exact mem10 | exact mem11 | exact mem12) (by omega) (tkText (tkOf o c)) (by have := tkText_small (tkOf o c); omega) hB.n) (by first | exact rep0 | exact rep1 | exact rep2 | exact rep3 | exact rep4 | exact rep5 | exact rep6 | exact rep7 | exact rep8 | exact rep9 | exact rep10 | exact rep11 | exact rep12) ?_
                 refine jz ?_
                 refine jz ?_
                 refine jz ?_
                 refine jz ?_
                 refine jz ?_
                 refine jnt ?_
                 refine jsr ?_
                 refine jz ?_
                 refine jz ?_
                 refine jst ?_
                 refine jnt ?_
                 refine jsr ?_
                 refine jz ?_
                 refine jz ?_
                 refine jl_bcall (B := B) (B' := (takeB B (onT (cutS s 50) n o c))) (b := b50) (ad := p.1) (c := p.2) (v := .tuple #[.int .u64 (takeV B (onT (cutS s 50) n o c)), .agg (Wn.c (takeW B (onT (cutS s 50) n o c))).toArray, .bool (takeI B (onT (cutS s 50) n o c)), .int .i64 (takeE B (onT (cutS s 50) n o c))]) rfl (by decide) rfl (goes_func rfl) (fun w1 hw1 => bk_take hw1 (show BkIn _ B b50 p.1 p.2 from ⟨(by first | exact mem0 | exact mem1 | exact mem2 | exact mem3 | exact mem4 | exact mem5 | exact mem6 | exact mem7 | exact mem8 | exact mem9 | exact mem10 | exact mem11 | exact mem12), (by first | exact mem0 | exact mem1 | exact mem2 | exact mem3 | exact mem4 | exact mem5 | exact mem6 | exact mem7 | exact mem8 | exact mem9 | exact mem10 | exact mem11 | exact mem12), hB.len⟩) hB.fit (onT (cutS s 50) n o c) ⟨hfo.serial, hfo.face, hfo.wins, hfo.many, hfc⟩ (by show o.chan.size ≤ _; omega) (by show o.commit.size ≤ _; omega) (Nat.le_trans (sgS_size _ _ _) (by decide))) (fun _ => (by first | exact rep0 | exact rep1 | exact rep2 | exact rep3 | exact rep4 | exact rep5 | exact rep6 | exact rep7 | exact rep8 | exact rep9 | exact rep10 | exact rep11 | exact rep12)) (fun _ => (by first | exact rep0 | exact rep1 | exact rep2 | exact rep3 | exact rep4 | exact rep5 | exact rep6 | exact rep7 | exact rep8 | exact rep9 | exact rep10 | exact rep11 | exact rep12)) (fun pt => ?_)
                 refine jz ?_
                 refine jz ?_
                 refine jz ?_
                 refine jz ?_
                 refine jz ?_
                 refine jl_m rfl (by decide) rfl (m_alloc) (fun b21 => ?_)
                 refine jz ?_
                 refine jst ?_
                 refine jz ?_
                 refine jz ?_
                 refine jnt ?_
                 refine jsr ?_
                 refine jz ?_
                 refine jnt ?_
                 refine jc_seq ?_
                 refine jsr ?_
                 refine jz ?_
                 refine jnt ?_
                 refine jc_block ?_
                 refine jc_loop (fun (m : Nat) => [(1, .slice ad xs.length cp), (5, .pointer (some ⟨kb.1.1, 0, none⟩)), (7, .pointer (some ⟨b50, 0, none⟩)), (9, .slice q.1 tk.length q.2), (10, .int .i64 (i : Nat)), (17, .pointer (some ⟨b17, 0, none⟩)), (19, .int .i64 (sgE n)), (23, .int .i64 (takeE B (onT (cutS s 50) n o c))), (24, .bool (decide (o.serial ∈ tk.take m))), (25, .int .i64 (m : Nat))]) (fun (m : Nat) => fun w' => m ≤ tk.length ∧ Hp w [] [.cells b21 (Wn.c (takeW B (onT (cutS s 50) n o c))), .cells b17 (Tk.c (onT (cutS s 50) n o c)), Bk.r (B).l (some ⟨b122, 0, none⟩) (B).l.length, Bk.r ((takeB B (onT (cutS s 50) n o c))).l pt.1 pt.2, Bk.h (takeB B (onT (cutS s 50) n o c)) b50 pt.1 pt.2, .row q.1 (tk).length q.2 22 1 ((tk).map (Value.int .u64)), kyL kb.2 (cutS s 50) 3, kyK kb.1.1 kb.1.2 kb.2 (cutS s 50) 3, kyC kb.1.2 3 ((sgN n) : Nat)] w') (fun (m : Nat) => tk.length - m) 0 ?_ ?_ ?_
                 ·exact ⟨rfl, rfl, rfl, rfl, rfl, rfl, rfl, rfl, rfl, rfl, trivial⟩
                 ·exact fun _ h => ⟨by omega, h⟩
                 ·intro m
                  refine jc_and (fun hm => ?_)
                  refine jc_seq ?_
                  refine jsr ?_
                  refine jz ?_
                  refine jz ?_
                  refine jy (y_len_slice rfl) ?_
                  refine jy (y_lss rfl rfl) ?_
                  refine jl_prop (fun h157 => ?_) (fun h157 => ?_)
                  ·first
                   | (exfalso; omega)
                   | (
                    refine jnt ?_
                    refine jc_true rfl ?_
                    refine jc_skip ?_
                    refine jq_then ?_
                    refine jc_seq ?_
                    refine jc_block ?_
                    have hmt : m < tk.length := by omega
                    refine jc_pure (fun _ hw => row_some (ad := q.1) (hw.get (by first | exact mem0 | exact mem1 | exact mem2 | exact mem3 | exact mem4 | exact mem5 | exact mem6 | exact mem7 | exact mem8 | exact mem9 | exact mem10 | exact mem11 | exact mem12)) (by omega)) (fun hps => ?_)
                    obtain ⟨bq, hbq⟩ := hps
                    refine jc_draw (by kernel_rfl) (fun _ h => h.drew) ?_
                    refine juz ?_
                    refine ju_prop (fun h160 => ?_) (fun h160 => ?_)
                    ·skip
                     refine juz ?_
                     refine ju_skip rfl (by decide) rfl ?_
                     refine ju_skip rfl (by decide) rfl ?_
                     refine ju_skip rfl (by decide) rfl ?_
                     refine ju_skip rfl (by decide) rfl ?_
                     refine ju_skip rfl (by decide) rfl ?_
                     refine ju_skip rfl (by decide) rfl ?_
                     refine ju_skip rfl (by decide) rfl ?_
                     refine juy (y_pick_true rfl rfl) ?_
                     refine juz ?_
                     refine ju_nil ?_
                     refine jq_block ?_
                     refine jq_then ?_
                     refine jc_region ?_
                     refine jz ?_
                     refine jy (y_add_fits rfl rfl (by simp only [fits]; omega)) ?_
                     refine jz ?_
                     refine jl_nil ?_
                     refine jq_round (i := m) (m + 1) ?_ ?_ ?_
                     ·omega
                     ·exact ⟨rfl, rfl, rfl, rfl, rfl, rfl, rfl, rfl, by first | exact congrArg (fun b => some (Value.bool b)) (decide_eq_true ((mem_snoc hmt).2 (.inl (by assumption)))).symm | exact congrArg (fun b => some (Value.bool b)) (decide_eq_true ((mem_snoc hmt).2 (.inr (by assumption)))).symm | exact congrArg (fun b => some (Value.bool b)) (decide_eq_false (fun hq => ((mem_snoc hmt).1 hq).elim (by assumption) (by assumption))).symm, lk_int rfl (by omega), trivial⟩
                     ·exact fun _ h => ⟨by omega, h⟩
                    ·skip
                     refine juz ?_
                     refine juz ?_
                     refine ju_as (u := .slice (some ⟨bq, 0, none⟩) tk.length q.2) (by rw [hbq]) ?_
                     refine juz ?_
                     refine juy (y_indexAddr_slice (off := m) rfl rfl (by omega) (by omega) (by omega)) ?_
                     refine juy (y_load_row (b := bq) (m := tk.length) (cap := q.2) (xs := tk.map (Value.int .u64)) rfl (by rw [← hbq]; exact mem5) (by rw [List.getElem?_map, List.getElem?_eq_getElem hmt]; rfl)) ?_
                     refine juz ?_
                     refine juz ?_
                     refine juy (y_eql rfl rfl) ?_
                     refine ju_prop (fun h168 => ?_) (fun h168 => ?_)
                     ·first
                      | (exfalso; omega)
                      | (
                       refine juy (y_pick_false rfl rfl) ?_
                       refine juz ?_
                       refine ju_nil ?_
                       refine jq_block ?_
                       refine jq_then ?_
                       refine jc_region ?_
                       refine jz ?_
                       refine jy (y_add_fits rfl rfl (by simp only [fits]; omega)) ?_
                       refine jz ?_
                       refine jl_nil ?_
                       refine jq_round (i := m) (m + 1) ?_ ?_ ?_
                       ·omega
                       ·exact ⟨rfl, rfl, rfl, rfl, rfl, rfl, rfl, rfl, by first | exact congrArg (fun b => some (Value.bool b)) (decide_eq_true ((mem_snoc hmt).2 (.inl (by assumption)))).symm | exact congrArg (fun b => some (Value.bool b)) (decide_eq_true ((mem_snoc hmt).2 (.inr (by assumption)))).symm | exact congrArg (fun b => some (Value.bool b)) (decide_eq_false (fun hq => ((mem_snoc hmt).1 hq).elim (by assumption) (by assumption))).symm, lk_int rfl (by omega), trivial⟩
                       ·exact fun _ h => ⟨by omega, h⟩
                       )
                     ·first
                      | (exfalso; omega)
                      | (
                       refine juy (y_pick_false rfl rfl) ?_
                       refine juz ?_
                       refine ju_nil ?_
                       refine jq_block ?_
                       refine jq_then ?_
                       refine jc_region ?_
                       refine jz ?_
                       refine jy (y_add_fits rfl rfl (by simp only [fits]; omega)) ?_
                       refine jz ?_
                       refine jl_nil ?_
                       refine jq_round (i := m) (m + 1) ?_ ?_ ?_
                       ·omega
                       ·exact ⟨rfl, rfl, rfl, rfl, rfl, rfl, rfl, rfl, by first | exact congrArg (fun b => some (Value.bool b)) (decide_eq_true ((mem_snoc hmt).2 (.inl (by assumption)))).symm | exact congrArg (fun b => some (Value.bool b)) (decide_eq_true ((mem_snoc hmt).2 (.inr (by assumption)))).symm | exact congrArg (fun b => some (Value.bool b)) (decide_eq_false (fun hq => ((mem_snoc hmt).1 hq).elim (by assumption) (by assumption))).symm, lk_int rfl (by omega), trivial⟩
                       ·exact fun _ h => ⟨by omega, h⟩
                       )
                    )
                  ·first
                   | (exfalso; omega)
                   | (
                    refine jnt ?_
                    refine jc_false rfl ?_
                    refine jc_exit ?_
                    refine jq_then_exit ?_
                    refine jq_then_exit ?_
                    refine jq_hit ?_
                    refine jq_then ?_
                    refine jc_seq ?_
                    refine jc_seq ?_
                    have hme : m = tk.length := by omega
                    subst hme
                    refine jc_region ?_
                    refine jz ?_
                    refine jl_as (u := .bool (decide (o.serial ∈ tk))) (by rw [List.take_length]) ?_
                    refine jl_prop (fun h170 => ?_) (fun h170 => ?_)
                    ·skip
                     have hth := ht1.1 h170
                     refine jz ?_
                     refine jz ?_
                     refine jy (y_neq rfl rfl) ?_
                     refine jl_prop (fun h173 => ?_) (fun h173 => ?_)
                     ·first
                      | (exfalso; omega)
                      | (
                       refine jy (y_pick_true rfl rfl) ?_
                       refine jz ?_
                       refine jsk ?_
                       refine jsk ?_
                       refine jsk ?_
                       refine jsk ?_
                       refine jsk ?_
                       refine jsk ?_
                       refine jsk ?_
                       refine jsk ?_
                       refine jsk ?_
                       refine jsk ?_
                       refine jy (y_pick_true rfl rfl) ?_
                       refine jnt ?_
                       refine jc_true rfl ?_
                       refine jsr ?_
                       refine jz ?_
                       refine jnt ?_
                       refine jc_ret ?_
                       refine jq_then_ret ?_
                       refine jq_block_ret ?_
                       refine jq_then_ret ?_
                       refine jq_block_ret ?_
                       refine jq_then_ret ?_
                       refine jq_then_ret ?_
                       refine jq_block_ret ?_
                       refine jq_then_ret ?_
                       refine jq_ret1 rfl rfl ?_
                       exact fun _ hw => ⟨rfl, hw.ch⟩
                       )
                     ·first
                      | (exfalso; omega)
                      | (
                       refine jy (y_pick_true rfl rfl) ?_
                       refine jz ?_
                       refine jz ?_
                       refine jl_as (u := .bool (decide (o.serial ∈ tk))) (by rw [List.take_length]) ?_
                       refine jl_prop (fun h176 => ?_) (fun h176 => ?_)
                       ·skip
                        have hth2 := ht1.1 h176
                        refine jz ?_
                        refine jz ?_
                        refine jsk ?_
                        refine jsk ?_
                        refine jy (y_pick_false rfl rfl) ?_
                        refine jz ?_
                        refine jsk ?_
                        refine jsk ?_
                        refine jy (y_pick_false rfl rfl) ?_
                        refine jy (y_pick_false rfl rfl) ?_
                        refine jnt ?_
                        refine jc_false rfl ?_
                        refine jc_skip ?_
                        refine jq_then ?_
                        refine jsr ?_
                        refine jz ?_
                        refine jy (y_eql rfl rfl) ?_
                        refine jl_prop (fun h188 => ?_) (fun h188 => ?_)
                        ·first
                         | (exfalso; omega)
                         | (
                          refine jnt ?_
                          refine jc_true rfl ?_
                          refine jc_region ?_
                          refine jz ?_
                          refine jz ?_
                          refine jz ?_
                          refine jl_m rfl (by decide) rfl (m_buildSlice (by decide) (Built.cell rfl rfl rfl (by repeat constructor) Built.nil)) (fun b192 => ?_)
                          refine jl_m2 rfl (by decide) rfl (m_append rfl rfl (by first | exact del0 | exact del1 | exact del2 | exact del3 | exact del4 | exact del5 | exact del6 | exact del7 | exact del8 | exact del9 | exact del10 | exact del11 | exact del12) (by first | exact del0 | exact del1 | exact del2 | exact del3 | exact del4 | exact del5 | exact del6 | exact del7 | exact del8 | exact del9 | exact del10 | exact del11 | exact del12) rfl (by omega) (by omega)) (fun a193 c193 => ?_)
                          refine jz ?_
                          refine jl_nil ?_
                          refine jq_block ?_
                          refine jq_joinI5 (takeB B (onT (cutS s 50) n o c)) pt (tk ++ [o.serial]) (a193, c193) (sgN n) ?_ ?_
                          ·exact ⟨rfl, rfl, rfl, by show some _ = some _; rw [List.length_append] <;> rfl, rfl, trivial⟩
                          ·exact fun _ h => ⟨ht2 (by omega), (h.part (.cons del4 (.cons del4 (.cons del0 (.cons del3 (.cons del3 (.cons del3 .nil))))))).cast (by rw [List.length_append, List.map_append] <;> rfl)⟩
                          )
                        ·first
                         | (exfalso; omega)
                         | (
                          refine jnt ?_
                          refine jc_false rfl ?_
                          refine jc_skip ?_
                          refine jq_block ?_
                          refine jq_joinI5 (takeB B (onT (cutS s 50) n o c)) pt tk q (sgN n) ?_ ?_
                          ·exact ⟨rfl, rfl, rfl, rfl, rfl, trivial⟩
                          ·exact fun _ h => ⟨ht3 (by omega), h.pop.pop.pop⟩
                          )
                       ·skip
                        have hth2 := ht1.2 h176
                        have hsg2 : sgE n = if n < 8 then 0 else 14 := rfl
                        refine jz ?_
                        refine jz ?_
                        refine jz ?_
                        refine jy (y_eql rfl rfl) ?_
                        refine jl_prop (fun h180 => ?_) (fun h180 => ?_)
                        ·first
                         | (exfalso; omega)
                         | (
                          refine jy (y_pick_true rfl rfl) ?_
                          refine jz ?_
                          refine jz ?_
                          refine jy (y_neq rfl rfl) ?_
                          refine jl_prop (fun h184 => ?_) (fun h184 => ?_)
                          ·first
                           | (exfalso; omega)
                           | (
                            refine jy (y_pick_true rfl rfl) ?_
                            refine jy (y_pick_false rfl rfl) ?_
                            refine jnt ?_
                            refine jc_true rfl ?_
                            refine jsr ?_
                            refine jz ?_
                            refine jnt ?_
                            refine jc_ret ?_
                            refine jq_then_ret ?_
                            refine jq_block_ret ?_
                            refine jq_then_ret ?_
                            refine jq_block_ret ?_
                            refine jq_then_ret ?_
                            refine jq_then_ret ?_
                            refine jq_block_ret ?_
                            refine jq_then_ret ?_
                            refine jq_ret1 rfl rfl ?_
                            exact fun _ hw => ⟨rfl, hw.ch⟩
                            )
                          ·first
                           | (exfalso; omega)
                           | (
                            refine jy (y_pick_true rfl rfl) ?_
                            refine jy (y_pick_false rfl rfl) ?_
                            refine jnt ?_
                            refine jc_false rfl ?_
                            refine jc_skip ?_
                            refine jq_then ?_
                            refine jsr ?_
                            refine jz ?_
                            refine jy (y_eql rfl rfl) ?_
                            refine jl_prop (fun h188 => ?_) (fun h188 => ?_)
                            ·first
                             | (exfalso; omega)
                             | (
                              refine jnt ?_
                              refine jc_true rfl ?_
                              refine jc_region ?_
                              refine jz ?_
                              refine jz ?_
                              refine jz ?_
                              refine jl_m rfl (by decide) rfl (m_buildSlice (by decide) (Built.cell rfl rfl rfl (by repeat constructor) Built.nil)) (fun b192 => ?_)
                              refine jl_m2 rfl (by decide) rfl (m_append rfl rfl (by first | exact del0 | exact del1 | exact del2 | exact del3 | exact del4 | exact del5 | exact del6 | exact del7 | exact del8 | exact del9 | exact del10 | exact del11 | exact del12) (by first | exact del0 | exact del1 | exact del2 | exact del3 | exact del4 | exact del5 | exact del6 | exact del7 | exact del8 | exact del9 | exact del10 | exact del11 | exact del12) rfl (by omega) (by omega)) (fun a193 c193 => ?_)
                              refine jz ?_
                              refine jl_nil ?_
                              refine jq_block ?_
                              refine jq_joinI5 (takeB B (onT (cutS s 50) n o c)) pt (tk ++ [o.serial]) (a193, c193) (sgN n) ?_ ?_
                              ·exact ⟨rfl, rfl, rfl, by show some _ = some _; rw [List.length_append] <;> rfl, rfl, trivial⟩
                              ·exact fun _ h => ⟨ht2 (by omega), (h.part (.cons del4 (.cons del4 (.cons del0 (.cons del3 (.cons del3 (.cons del3 .nil))))))).cast (by rw [List.length_append, List.map_append] <;> rfl)⟩
                              )
                            ·first
                             | (exfalso; omega)
                             | (
                              refine jnt ?_
                              refine jc_false rfl ?_
                              refine jc_skip ?_
                              refine jq_block ?_
                              refine jq_joinI5 (takeB B (onT (cutS s 50) n o c)) pt tk q (sgN n) ?_ ?_
                              ·exact ⟨rfl, rfl, rfl, rfl, rfl, trivial⟩
                              ·exact fun _ h => ⟨ht3 (by omega), h.pop.pop.pop⟩
                              )
                            )
                          )
                        ·first
                         | (exfalso; omega)
                         | (
                          refine jy (y_pick_true rfl rfl) ?_
                          refine jz ?_
                          refine jsk ?_
                          refine jsk ?_
                          refine jy (y_pick_false rfl rfl) ?_
                          refine jy (y_pick_false rfl rfl) ?_
                          refine jnt ?_
                          refine jc_false rfl ?_
                          refine jc_skip ?_
                          refine jq_then ?_
                          refine jsr ?_
                          refine jz ?_
                          refine jy (y_eql rfl rfl) ?_
                          refine jl_prop (fun h188 => ?_) (fun h188 => ?_)
                          ·first
                           | (exfalso; omega)
                           | (
                            refine jnt ?_
                            refine jc_true rfl ?_
                            refine jc_region ?_
                            refine jz ?_
                            refine jz ?_
                            refine jz ?_
                            refine jl_m rfl (by decide) rfl (m_buildSlice (by decide) (Built.cell rfl rfl rfl (by repeat constructor) Built.nil)) (fun b192 => ?_)
                            refine jl_m2 rfl (by decide) rfl (m_append rfl rfl (by first | exact del0 | exact del1 | exact del2 | exact del3 | exact del4 | exact del5 | exact del6 | exact del7 | exact del8 | exact del9 | exact del10 | exact del11 | exact del12) (by first | exact del0 | exact del1 | exact del2 | exact del3 | exact del4 | exact del5 | exact del6 | exact del7 | exact del8 | exact del9 | exact del10 | exact del11 | exact del12) rfl (by omega) (by omega)) (fun a193 c193 => ?_)
                            refine jz ?_
                            refine jl_nil ?_
                            refine jq_block ?_
                            refine jq_joinI5 (takeB B (onT (cutS s 50) n o c)) pt (tk ++ [o.serial]) (a193, c193) (sgN n) ?_ ?_
                            ·exact ⟨rfl, rfl, rfl, by show some _ = some _; rw [List.length_append] <;> rfl, rfl, trivial⟩
                            ·exact fun _ h => ⟨ht2 (by omega), (h.part (.cons del4 (.cons del4 (.cons del0 (.cons del3 (.cons del3 (.cons del3 .nil))))))).cast (by rw [List.length_append, List.map_append] <;> rfl)⟩
                            )
                          ·first
                           | (exfalso; omega)
                           | (
                            refine jnt ?_
                            refine jc_false rfl ?_
                            refine jc_skip ?_
                            refine jq_block ?_
                            refine jq_joinI5 (takeB B (onT (cutS s 50) n o c)) pt tk q (sgN n) ?_ ?_
                            ·exact ⟨rfl, rfl, rfl, rfl, rfl, trivial⟩
                            ·exact fun _ h => ⟨ht3 (by omega), h.pop.pop.pop⟩
                            )
                          )
                       )
                    ·skip
                     have hth := ht1.2 h170
                     have hsg : sgE n = if n < 8 then 0 else 14 := rfl
                     refine jz ?_
                     refine jsk ?_
                     refine jsk ?_
                     refine jy (y_pick_false rfl rfl) ?_
                     refine jz ?_
                     refine jz ?_
                     refine jl_as (u := .bool (decide (o.serial ∈ tk))) (by rw [List.take_length]) ?_
                     refine jl_prop (fun h176 => ?_) (fun h176 => ?_)
                     ·skip
                      have hth2 := ht1.1 h176
                      refine jz ?_
                      refine jz ?_
                      refine jsk ?_
                      refine jsk ?_
                      refine jy (y_pick_false rfl rfl) ?_
                      refine jz ?_
                      refine jsk ?_
                      refine jsk ?_
                      refine jy (y_pick_false rfl rfl) ?_
                      refine jy (y_pick_false rfl rfl) ?_
                      refine jnt ?_
                      refine jc_false rfl ?_
                      refine jc_skip ?_
                      refine jq_then ?_
                      refine jsr ?_
                      refine jz ?_
                      refine jy (y_eql rfl rfl) ?_
                      refine jl_prop (fun h188 => ?_) (fun h188 => ?_)
                      ·first
                       | (exfalso; omega)
                       | (
                        refine jnt ?_
                        refine jc_true rfl ?_
                        refine jc_region ?_
                        refine jz ?_
                        refine jz ?_
                        refine jz ?_
                        refine jl_m rfl (by decide) rfl (m_buildSlice (by decide) (Built.cell rfl rfl rfl (by repeat constructor) Built.nil)) (fun b192 => ?_)
                        refine jl_m2 rfl (by decide) rfl (m_append rfl rfl (by first | exact del0 | exact del1 | exact del2 | exact del3 | exact del4 | exact del5 | exact del6 | exact del7 | exact del8 | exact del9 | exact del10 | exact del11 | exact del12) (by first | exact del0 | exact del1 | exact del2 | exact del3 | exact del4 | exact del5 | exact del6 | exact del7 | exact del8 | exact del9 | exact del10 | exact del11 | exact del12) rfl (by omega) (by omega)) (fun a193 c193 => ?_)
                        refine jz ?_
                        refine jl_nil ?_
                        refine jq_block ?_
                        refine jq_joinI5 (takeB B (onT (cutS s 50) n o c)) pt (tk ++ [o.serial]) (a193, c193) (sgN n) ?_ ?_
                        ·exact ⟨rfl, rfl, rfl, by show some _ = some _; rw [List.length_append] <;> rfl, rfl, trivial⟩
                        ·exact fun _ h => ⟨ht2 (by omega), (h.part (.cons del4 (.cons del4 (.cons del0 (.cons del3 (.cons del3 (.cons del3 .nil))))))).cast (by rw [List.length_append, List.map_append] <;> rfl)⟩
                        )
                      ·first
                       | (exfalso; omega)
                       | (
                        refine jnt ?_
                        refine jc_false rfl ?_
                        refine jc_skip ?_
                        refine jq_block ?_
                        refine jq_joinI5 (takeB B (onT (cutS s 50) n o c)) pt tk q (sgN n) ?_ ?_
                        ·exact ⟨rfl, rfl, rfl, rfl, rfl, trivial⟩
                        ·exact fun _ h => ⟨ht3 (by omega), h.pop.pop.pop⟩
                        )
                     ·skip
                      have hth2 := ht1.2 h176
                      have hsg2 : sgE n = if n < 8 then 0 else 14 := rfl
                      refine jz ?_
                      refine jz ?_
                      refine jz ?_
                      refine jy (y_eql rfl rfl) ?_
                      refine jl_prop (fun h180 => ?_) (fun h180 => ?_)
                      ·first
                       | (exfalso; omega)
                       | (
                        refine jy (y_pick_true rfl rfl) ?_
                        refine jz ?_
                        refine jz ?_
                        refine jy (y_neq rfl rfl) ?_
                        refine jl_prop (fun h184 => ?_) (fun h184 => ?_)
                        ·first
                         | (exfalso; omega)
                         | (
                          refine jy (y_pick_true rfl rfl) ?_
                          refine jy (y_pick_false rfl rfl) ?_
                          refine jnt ?_
                          refine jc_true rfl ?_
                          refine jsr ?_
                          refine jz ?_
                          refine jnt ?_
                          refine jc_ret ?_
                          refine jq_then_ret ?_
                          refine jq_block_ret ?_
                          refine jq_then_ret ?_
                          refine jq_block_ret ?_
                          refine jq_then_ret ?_
                          refine jq_then_ret ?_
                          refine jq_block_ret ?_
                          refine jq_then_ret ?_
                          refine jq_ret1 rfl rfl ?_
                          exact fun _ hw => ⟨rfl, hw.ch⟩
                          )
                        ·first
                         | (exfalso; omega)
                         | (
                          refine jy (y_pick_true rfl rfl) ?_
                          refine jy (y_pick_false rfl rfl) ?_
                          refine jnt ?_
                          refine jc_false rfl ?_
                          refine jc_skip ?_
                          refine jq_then ?_
                          refine jsr ?_
                          refine jz ?_
                          refine jy (y_eql rfl rfl) ?_
                          refine jl_prop (fun h188 => ?_) (fun h188 => ?_)
                          ·first
                           | (exfalso; omega)
                           | (
                            refine jnt ?_
                            refine jc_true rfl ?_
                            refine jc_region ?_
                            refine jz ?_
                            refine jz ?_
                            refine jz ?_
                            refine jl_m rfl (by decide) rfl (m_buildSlice (by decide) (Built.cell rfl rfl rfl (by repeat constructor) Built.nil)) (fun b192 => ?_)
                            refine jl_m2 rfl (by decide) rfl (m_append rfl rfl (by first | exact del0 | exact del1 | exact del2 | exact del3 | exact del4 | exact del5 | exact del6 | exact del7 | exact del8 | exact del9 | exact del10 | exact del11 | exact del12) (by first | exact del0 | exact del1 | exact del2 | exact del3 | exact del4 | exact del5 | exact del6 | exact del7 | exact del8 | exact del9 | exact del10 | exact del11 | exact del12) rfl (by omega) (by omega)) (fun a193 c193 => ?_)
                            refine jz ?_
                            refine jl_nil ?_
                            refine jq_block ?_
                            refine jq_joinI5 (takeB B (onT (cutS s 50) n o c)) pt (tk ++ [o.serial]) (a193, c193) (sgN n) ?_ ?_
                            ·exact ⟨rfl, rfl, rfl, by show some _ = some _; rw [List.length_append] <;> rfl, rfl, trivial⟩
                            ·exact fun _ h => ⟨ht2 (by omega), (h.part (.cons del4 (.cons del4 (.cons del0 (.cons del3 (.cons del3 (.cons del3 .nil))))))).cast (by rw [List.length_append, List.map_append] <;> rfl)⟩
                            )
                          ·first
                           | (exfalso; omega)
                           | (
                            refine jnt ?_
                            refine jc_false rfl ?_
                            refine jc_skip ?_
                            refine jq_block ?_
                            refine jq_joinI5 (takeB B (onT (cutS s 50) n o c)) pt tk q (sgN n) ?_ ?_
                            ·exact ⟨rfl, rfl, rfl, rfl, rfl, trivial⟩
                            ·exact fun _ h => ⟨ht3 (by omega), h.pop.pop.pop⟩
                            )
                          )
                        )
                      ·first
                       | (exfalso; omega)
                       | (
                        refine jy (y_pick_true rfl rfl) ?_
                        refine jz ?_
                        refine jsk ?_
                        refine jsk ?_
                        refine jy (y_pick_false rfl rfl) ?_
                        refine jy (y_pick_false rfl rfl) ?_
                        refine jnt ?_
                        refine jc_false rfl ?_
                        refine jc_skip ?_
                        refine jq_then ?_
                        refine jsr ?_
                        refine jz ?_
                        refine jy (y_eql rfl rfl) ?_
                        refine jl_prop (fun h188 => ?_) (fun h188 => ?_)
                        ·first
                         | (exfalso; omega)
                         | (
                          refine jnt ?_
                          refine jc_true rfl ?_
                          refine jc_region ?_
                          refine jz ?_
                          refine jz ?_
                          refine jz ?_
                          refine jl_m rfl (by decide) rfl (m_buildSlice (by decide) (Built.cell rfl rfl rfl (by repeat constructor) Built.nil)) (fun b192 => ?_)
                          refine jl_m2 rfl (by decide) rfl (m_append rfl rfl (by first | exact del0 | exact del1 | exact del2 | exact del3 | exact del4 | exact del5 | exact del6 | exact del7 | exact del8 | exact del9 | exact del10 | exact del11 | exact del12) (by first | exact del0 | exact del1 | exact del2 | exact del3 | exact del4 | exact del5 | exact del6 | exact del7 | exact del8 | exact del9 | exact del10 | exact del11 | exact del12) rfl (by omega) (by omega)) (fun a193 c193 => ?_)
                          refine jz ?_
                          refine jl_nil ?_
                          refine jq_block ?_
                          refine jq_joinI5 (takeB B (onT (cutS s 50) n o c)) pt (tk ++ [o.serial]) (a193, c193) (sgN n) ?_ ?_
                          ·exact ⟨rfl, rfl, rfl, by show some _ = some _; rw [List.length_append] <;> rfl, rfl, trivial⟩
                          ·exact fun _ h => ⟨ht2 (by omega), (h.part (.cons del4 (.cons del4 (.cons del0 (.cons del3 (.cons del3 (.cons del3 .nil))))))).cast (by rw [List.length_append, List.map_append] <;> rfl)⟩
                          )
                        ·first
                         | (exfalso; omega)
                         | (
                          refine jnt ?_
                          refine jc_false rfl ?_
                          refine jc_skip ?_
                          refine jq_block ?_
                          refine jq_joinI5 (takeB B (onT (cutS s 50) n o c)) pt tk q (sgN n) ?_ ?_
                          ·exact ⟨rfl, rfl, rfl, rfl, rfl, trivial⟩
                          ·exact fun _ h => ⟨ht3 (by omega), h.pop.pop.pop⟩
                          )
                        )
                    )
                 )
               )
             ·first
              | (exfalso; omega)
              | (
               refine jz ?_
               refine jnt ?_
               refine jc_false rfl ?_
               refine jc_region ?_
               refine jz ?_
               refine jz ?_
               refine jy (y_quo rfl rfl (by omega) (by omega) (by simp only [fits]; omega)) ?_
               refine jy (y_rem rfl rfl (by omega) (by omega)) ?_
               refine jl_bcall (B := B) (B' := (goneB B (c / 3 % 9))) (b := b50) (ad := p.1) (c := p.2) (v := .int .i64 (goneE B (c / 3 % 9))) rfl (by decide) rfl (goes_func rfl) (fun w1 hw1 => bk_gone hw1 (show BkIn _ B b50 p.1 p.2 from ⟨(by first | exact mem0 | exact mem1 | exact mem2 | exact mem3 | exact mem4 | exact mem5 | exact mem6 | exact mem7 | exact mem8 | exact mem9 | exact mem10 | exact mem11 | exact mem12), (by first | exact mem0 | exact mem1 | exact mem2 | exact mem3 | exact mem4 | exact mem5 | exact mem6 | exact mem7 | exact mem8 | exact mem9 | exact mem10 | exact mem11 | exact mem12), hB.len⟩) (c / 3 % 9)) (fun _ => (by first | exact rep0 | exact rep1 | exact rep2 | exact rep3 | exact rep4 | exact rep5 | exact rep6 | exact rep7 | exact rep8 | exact rep9 | exact rep10 | exact rep11 | exact rep12)) (fun _ => (by first | exact rep0 | exact rep1 | exact rep2 | exact rep3 | exact rep4 | exact rep5 | exact rep6 | exact rep7 | exact rep8 | exact rep9 | exact rep10 | exact rep11 | exact rep12)) (fun pg => ?_)
               refine jl_nil ?_
               refine jq_block ?_
               refine jq_joinI5 (goneB B (c / 3 % 9)) pg tk q n ?_ ?_
               ·exact ⟨rfl, rfl, rfl, rfl, rfl, trivial⟩
               ·exact fun _ h => ⟨hB.gone _, h⟩
               )
             )
          )
        ·first
         | (exfalso; omega)
         | (
          refine jy (y_pick_true rfl rfl) ?_
          refine jnt ?_
          refine jc_false rfl ?_
          refine jc_exit ?_
          refine jq_then_exit ?_
          refine jq_then_exit ?_
          refine jq_hit ?_
          refine jq_then ?_
          refine jsr ?_
          refine jpc (goes_func rfl) (fun w1 hw1 => fixed16_any w1) ?_
          refine jz ?_
          refine jnt ?_
          refine jc_ret ?_
          refine jq_ret1 rfl rfl ?_
          exact fun _ hw => ⟨rfl, hw.ch⟩
          )
        )
      ·first
       | (exfalso; omega)
       | (
        refine jz ?_
        refine jsk ?_
        refine jsk ?_
        refine jy (y_pick_false rfl rfl) ?_
        refine jnt ?_
        refine jc_false rfl ?_
        refine jc_exit ?_
        refine jq_then_exit ?_
        refine jq_then_exit ?_
        refine jq_hit ?_
        refine jq_then ?_
        refine jsr ?_
        refine jpc (goes_func rfl) (fun w1 hw1 => fixed16_any w1) ?_
        refine jz ?_
        refine jnt ?_
        refine jc_ret ?_
        refine jq_ret1 rfl rfl ?_
        exact fun _ hw => ⟨rfl, hw.ch⟩
        )
     )
   )

end Go.Proofs.Ytghomncegjamfaa