/- The walk of LotteryPuts. Written by program (walk.py) out of a table of contracts and invariants. -/
import Derived.Test.YtghomncegjamfaaLz
import Derived.Test.YtghomncegjamfaaJy
namespace Go.Proofs.Ytghomncegjamfaa
open Go.RowKit
set_option maxRecDepth 100000
set_option maxHeartbeats 2000000
set_option linter.unusedVariables false
set_option linter.unusedSimpArgs false
attribute [local irreducible] Yields Makes Writes
attribute [local irreducible] commitS signK rootK
theorem makeB_or (B : Bk) (face wins many : Int) (salt : ByteArray) (raw : Int) : makeB B face wins many salt raw = B ∨ (makeE B face wins many salt raw = 0 ∧ makeB B face wins many salt raw = { B with next := (B.next + 1) % 18446744073709551616, l := B.l ++ [newO B face wins many salt raw] }) := by
  by_cases h : makeE B face wins many salt raw = 0
  · exact .inr ⟨h, if_pos h⟩
  · exact .inl (if_neg h)
theorem room_len {l : List Of} {f : Int} (h : roomE l f = 0) : l.length < 8 := by
  unfold roomE at h
  split at h
  · exact absurd h (by decide)
  · omega
theorem fit_make {B : Bk} (h : B.Fit) (hc : B.chan.size ≤ 1000) {face wins many : Int} {salt : ByteArray} {raw : Int} (h1 : fits .u64 face) (h2 : fits .u64 wins) (h3 : fits .u64 many) (h4 : fits .u64 raw) : (makeB B face wins many salt raw).Fit := by
  rcases makeB_or B face wins many salt raw with e | ⟨hz, e⟩
  · rw [e]; exact h
  · obtain ⟨m1, m2, m3, m4, m5⟩ := makeE_zero hz
    have hlen := room_len m5
    rw [e]
    refine ⟨by simp only [fits]; omega, fun o ho => ?_, fun o ho => ?_, by show (B.l ++ [_]).length ≤ 8; rw [List.length_append]; simp only [List.length_singleton]; omega⟩
    · rcases List.mem_append.1 ho with ho | ho
      · exact h.l o ho
      · rw [List.mem_singleton.1 ho]; exact ⟨h.next, h1, h2, h3, fairV_fits raw many h4⟩
    · rcases List.mem_append.1 ho with ho | ho
      · exact h.low o ho
      · rw [List.mem_singleton.1 ho]; exact ⟨hc, commit_sz _ _, by show salt.size ≤ 1000; omega⟩
theorem fit_gone {B : Bk} (h : B.Fit) (s : Int) : (goneB B s).Fit := by
  unfold goneB
  split
  · exact h
  · have hs : (B.l.eraseIdx (findL B.l s).toNat).Sublist B.l := List.eraseIdx_sublist _ _
    refine ⟨h.next, fun o ho => h.l o (hs.subset ho), fun o ho => h.low o (hs.subset ho), ?_⟩
    have := hs.length_le
    have := h.len
    show (B.l.eraseIdx _).length ≤ 8
    omega
theorem make_chan (B : Bk) (face wins many : Int) (salt : ByteArray) (raw : Int) : (makeB B face wins many salt raw).chan = B.chan ∧ (makeB B face wins many salt raw).cl = B.cl := by
  unfold makeB; split <;> exact ⟨rfl, rfl⟩
theorem gone_chan (B : Bk) (s : Int) : (goneB B s).chan = B.chan ∧ (goneB B s).cl = B.cl := by
  unfold goneB; split <;> exact ⟨rfl, rfl⟩
/-- What is known of a book on which so many calls were made. -/
structure PI (n : Nat) (B : Bk) : Prop where
  ok : Ok strCh 50 B
  fit : B.Fit
  next : B.next ≤ n + 1
theorem PI.new (cl : ByteArray) : PI 0 ⟨strCh, cl, 1, []⟩ := ⟨ok_new _ _ _, nil_fit ⟨by decide, by decide⟩, by show (1 : Int) ≤ (0 : Nat) + 1; omega⟩
theorem PI.gone {n : Nat} {B : Bk} (h : PI n B) (s : Int) : PI (n + 1) (goneB B s) := ⟨h.ok.gone s, fit_gone h.fit s, by rw [gone_next]; have := h.next; omega⟩
theorem PI.len {n : Nat} {B : Bk} (h : PI n B) : B.l.length ≤ 1000 := by have := h.ok.len; omega
theorem PI.make {n : Nat} {B : Bk} (h : PI n B) (hn : n ≤ 12) {face wins many : Int} {salt : ByteArray} {raw : Int} (hf : 0 ≤ face ∧ face ≤ 50) (hm : 1 ≤ many ∧ wins ≤ many) (h1 : fits .u64 face) (h2 : fits .u64 wins) (h3 : fits .u64 many) (h4 : fits .u64 raw) : PI (n + 1) (makeB B face wins many salt raw) := by
  have hx := h.next
  exact ⟨h.ok.make hf hm (by omega), fit_make h.fit (by rw [h.ok.chan]; decide) h1 h2 h3 h4, by have := make_next (b := B) (face := face) (wins := wins) (many := many) (raw := raw) (salt := salt) h.ok.one (by omega); omega⟩
theorem take_fit {n : Nat} {B : Bk} (h : PI n B) {j : Nat} (hj : j ≤ B.l.length) : Bk.Fit ⟨strCh, strCh, nxt B.l j, B.l.take j⟩ := by
  have h1 := take_ok h.ok strCh hj
  refine ⟨?_, fun o ho => h.fit.l o (List.mem_of_mem_take ho), fun o ho => h.fit.low o (List.mem_of_mem_take ho), h1.len⟩
  have h2 := h1.one
  refine ⟨by show 0 ≤ nxt B.l j; have : 1 ≤ nxt B.l j := h2; omega, ?_⟩
  cases j with
  | zero => show (1 : Int) ≤ 18446744073709551615; decide
  | succ j =>
    have hg := h.ok.good (B.l[j]'(by omega)) (List.getElem_mem _)
    show (B.l.getD j of0).serial + 1 ≤ 18446744073709551615
    rw [List.getD_eq_getElem?_getD, List.getElem?_eq_getElem (by omega)]
    have := hg.high
    show (B.l[j]'(by omega)).serial + 1 ≤ 18446744073709551615
    omega
theorem nxt_last {l : List Of} {m : Nat} {o : Of} (hm : l.length = m + 1) (ho : l[m]'(by omega) = o) : nxt l l.length = o.serial + 1 := by
  subst ho
  have e : nxt l l.length = nxt l (m + 1) := by rw [hm]
  rw [e]
  show (l.getD m of0).serial + 1 = _
  rw [List.getD_eq_getElem?_getD, List.getElem?_eq_getElem (by omega)]; rfl
theorem flat_at {l : List Of} {i : Nat} {o : Of} (h : i < l.length) (ho : l[i] = o) : ∀ j u, (Of.c o)[j]? = some u → (l.flatMap Of.c)[i * 9 + j]? = some u := fun j u hj => by
  have hl : j < 9 := (List.getElem?_eq_some_iff.1 hj).1
  rw [flat_get (c := Of.c) (fun _ => rfl) l i j h hl, ho]; exact hj

theorem lotteryPuts_any (ad : Option Addr) (c : Nat) (xs : List Int) (w : World) (hx : ∀ x ∈ xs, fits .u64 x) (hI : Ints w ad .u64 xs) :
  Calls Try.prog 5 #[.slice ad xs.length c] w fun e w' => e = .returned (.bool true) ∧ Ch [] w w' := by
 refine calls_of (n := 142) (E := [(0, .slice ad xs.length c)]) (W := Hp w [] []) Try.func5 rfl rfl (Nat.le_of_ble_eq_true rfl) rfl (Hp.nil _ _) ?_
 refine jsr ?_
 refine jz ?_
 refine jnt ?_
 refine jsr ?_
 refine jpc (goes_func rfl) (fun w1 hw1 => lchan_any w1) ?_
 refine jpc (goes_func rfl) (fun w1 hw1 => lchan_any w1) ?_
 refine jl_fcall rfl (by decide) rfl (goes_func rfl) (fun w1 hw1 => lnew_ok strCh strCh w1 (by decide) (by decide)) (fun b13 => ?_)
 refine jz ?_
 refine jz ?_
 refine jz ?_
 refine jz ?_
 refine jz ?_
 refine jnt ?_
 refine jsr ?_
 refine jpc (goes_func rfl) (fun w1 hw1 => lchan_any w1) ?_
 refine jpc (goes_func rfl) (fun w1 hw1 => lchan_any w1) ?_
 refine jl_fcall rfl (by decide) rfl (goes_func rfl) (fun w1 hw1 => lnew_ok strCh strCh w1 (by decide) (by decide)) (fun b19 => ?_)
 refine jz ?_
 refine jz ?_
 refine jz ?_
 refine jz ?_
 refine jz ?_
 refine jnt ?_
 refine jc_seq ?_
 refine jsr ?_
 refine jz ?_
 refine jy (y_eql_nil rfl rfl) ?_
 refine jl_as (u := .bool false) rfl ?_
 refine jz ?_
 refine jz ?_
 refine jy (y_eql_nil rfl rfl) ?_
 refine jl_as (u := .bool false) rfl ?_
 refine jy (y_pick_false rfl rfl) ?_
 refine jz ?_
 refine jz ?_
 refine jy (y_neq rfl rfl) ?_
 refine jl_prop (fun h30 => ?_) (fun h30 => ?_)
 ·first
  | (exfalso; omega)
  | (
   refine jy (y_pick_false rfl rfl) ?_
   refine jz ?_
   refine jsk ?_
   refine jsk ?_
   refine jy (y_pick_true rfl rfl) ?_
   refine jnt ?_
   refine jc_true rfl ?_
   refine jsr ?_
   refine jz ?_
   refine jnt ?_
   refine jc_ret ?_
   refine jq_then_ret ?_
   refine jq_ret1 rfl rfl ?_
   exact fun _ hw => ⟨rfl, hw.ch⟩
   )
 ·first
  | (exfalso; omega)
  | (
   refine jy (y_pick_false rfl rfl) ?_
   refine jz ?_
   refine jz ?_
   refine jy (y_neq rfl rfl) ?_
   refine jl_prop (fun h34 => ?_) (fun h34 => ?_)
   ·first
    | (exfalso; omega)
    | (
     refine jy (y_pick_false rfl rfl) ?_
     refine jnt ?_
     refine jc_true rfl ?_
     refine jsr ?_
     refine jz ?_
     refine jnt ?_
     refine jc_ret ?_
     refine jq_then_ret ?_
     refine jq_ret1 rfl rfl ?_
     exact fun _ hw => ⟨rfl, hw.ch⟩
     )
   ·first
    | (exfalso; omega)
    | (
     refine jy (y_pick_false rfl rfl) ?_
     refine jnt ?_
     refine jc_false rfl ?_
     refine jc_skip ?_
     refine jq_then ?_
     refine jc_seq ?_
     refine jc_seq ?_
     refine jc_world (fun _ h => (((h.nilrow 33 9).nilrow 33 9).perm (List.Perm.cons _ (List.perm_append_comm (l₁ := [_, _]) (l₂ := [_])))).cast (H' := [Bk.r [] none 0, Bk.h ⟨strCh, strCh, 1, []⟩ b13 none 0, Bk.r [] none 0, Bk.h ⟨strCh, strCh, 1, []⟩ b19 none 0]) rfl) ?_
     refine jc_region ?_
     refine jz ?_
     refine jnt ?_
     refine jc_block ?_
     refine jc_loop3 (fun (i : Nat) (B : Bk) (p : Option Addr × Nat) => [(0, .slice ad xs.length c), (3, .pointer (some ⟨b13, 0, none⟩)), (5, .pointer (some ⟨b19, 0, none⟩)), (7, .int .i64 (i : Nat))]) (fun (i : Nat) (B : Bk) (p : Option Addr × Nat) => fun w' => (i ≤ xs.length ∧ i ≤ 12 ∧ PI i B) ∧ Hp w [] [Bk.r (B).l p.1 p.2, Bk.h B b13 p.1 p.2, Bk.r [] none 0, Bk.h ⟨strCh, strCh, 1, []⟩ b19 none 0] w') (fun (i : Nat) (B : Bk) (p : Option Addr × Nat) => xs.length - i) 0 ⟨strCh, strCh, 1, []⟩ (none, 0) ?_ ?_ ?_
     ·exact ⟨rfl, rfl, rfl, rfl, trivial⟩
     ·exact fun _ h => ⟨⟨by omega, by omega, PI.new strCh⟩, h⟩
     ·intro i B p
      refine jc_and (fun hi => ?_)
      obtain ⟨hi1, hi2, hB⟩ := hi
      refine jc_seq ?_
      refine jsr ?_
      refine jz ?_
      refine jz ?_
      refine jy (y_len_slice rfl) ?_
      refine jy (y_lss rfl rfl) ?_
      refine jl_prop (fun h39 => ?_) (fun h39 => ?_)
      ·first
       | (exfalso; omega)
       | (
        refine jz ?_
        refine jz ?_
        refine jy (y_lss rfl rfl) ?_
        refine jl_prop (fun h42 => ?_) (fun h42 => ?_)
        ·first
         | (exfalso; omega)
         | (
          have hlt : i < xs.length := by omega
          obtain ⟨bb, oo, ea, hold⟩ := hI i hlt
          subst ea
          have hfn := hx _ (List.getElem_mem hlt)
          have hfn0 := hfn
          simp only [fits] at hfn
          generalize hxe : xs[i]'hlt = n at *
          refine jy (y_pick_true rfl rfl) ?_
          refine jnt ?_
          refine jc_true rfl ?_
          refine jc_skip ?_
          refine jq_then ?_
          refine jc_seq ?_
          refine jc_block ?_
          refine jsr ?_
          refine jz ?_
          refine jz ?_
          refine jy (y_indexAddr_slice (off := oo + i) rfl rfl (by omega) (by omega) (by omega)) ?_
          refine jy (y_load_old rfl hold (by simp)) ?_
          refine jy (y_rem rfl rfl (by omega) (by omega)) ?_
          refine jy (y_eql rfl rfl) ?_
          refine jl_prop (fun h51 => ?_) (fun h51 => ?_)
          ·first
           | (exfalso; omega)
           | (
            refine jnt ?_
            refine jc_true rfl ?_
            refine jc_region ?_
            refine jz ?_
            refine jz ?_
            refine jz ?_
            refine jy (y_indexAddr_slice (off := oo + i) rfl rfl (by omega) (by omega) (by omega)) ?_
            refine jy (y_load_old rfl hold (by simp)) ?_
            refine jy (y_quo rfl rfl (by omega) (by omega) (by simp only [fits]; omega)) ?_
            refine jy (y_rem rfl rfl (by omega) (by omega)) ?_
            refine jl_bcall (B := B) (B' := (goneB B (n / 4 % 9))) (b := b13) (ad := p.1) (c := p.2) (v := .int .i64 (goneE B (n / 4 % 9))) rfl (by decide) rfl (goes_func rfl) (fun w1 hw1 => bk_gone hw1 (show BkIn _ B b13 p.1 p.2 from ⟨(by first | exact mem0 | exact mem1 | exact mem2 | exact mem3 | exact mem4 | exact mem5), (by first | exact mem0 | exact mem1 | exact mem2 | exact mem3 | exact mem4 | exact mem5), hB.len⟩) (n / 4 % 9)) (fun _ => (by first | exact rep0 | exact rep1 | exact rep2 | exact rep3 | exact rep4 | exact rep5)) (fun _ => (by first | exact rep0 | exact rep1 | exact rep2 | exact rep3 | exact rep4 | exact rep5)) (fun pg => ?_)
            refine jl_nil ?_
            refine jq_block ?_
            refine jq_then ?_
            refine jc_region ?_
            refine jz ?_
            refine jy (y_add_fits rfl rfl (by simp only [fits]; omega)) ?_
            refine jz ?_
            refine jl_nil ?_
            refine jq_round3 (i := i) (j := B) (l := p) (i + 1) (goneB B (n / 4 % 9)) pg ?_ ?_ ?_
            ·omega
            ·exact ⟨rfl, rfl, rfl, lk_int rfl (by omega), trivial⟩
            ·exact fun _ h => ⟨⟨by omega, by omega, hB.gone _⟩, h⟩
            )
          ·first
           | (exfalso; omega)
           | (
            refine jnt ?_
            refine jc_false rfl ?_
            refine jc_tail 17 (by kernel_rfl) (fun _ h => h.drew) ?_
            simp only [List.take_succ_cons, List.take_zero, List.drop_succ_cons, List.drop_zero]
            refine jtz ?_
            refine jtz ?_
            refine jtz ?_
            refine jty (y_indexAddr_slice (off := oo + i) rfl rfl (by omega) (by omega) (by omega)) ?_
            refine jty (y_load_old rfl hold (by simp)) ?_
            refine jty (y_rem rfl rfl (by omega) (by omega)) ?_
            refine jty (y_add_u64 rfl rfl) ?_
            refine jt_as (u := .int .u64 (1 + n % 50)) (congrArg (Value.int .u64) (by omega)) ?_
            refine jtz ?_
            refine jtz ?_
            refine jty (y_indexAddr_slice (off := oo + i) rfl rfl (by omega) (by omega) (by omega)) ?_
            refine jty (y_load_old rfl hold (by simp)) ?_
            refine jty (y_rem rfl rfl (by omega) (by omega)) ?_
            refine jty (y_add_u64 rfl rfl) ?_
            refine jt_as (u := .int .u64 (1 + n % 3)) (congrArg (Value.int .u64) (by omega)) ?_
            refine jtz ?_
            refine jtz ?_
            refine jty (y_indexAddr_slice (off := oo + i) rfl rfl (by omega) (by omega) (by omega)) ?_
            refine jty (y_load_old rfl hold (by simp)) ?_
            refine jt_nil ?_
            refine jl_bcall (B := B) (B' := (makeB B (1 + n % 50) 1 (1 + n % 3) strSalt n)) (b := b13) (ad := p.1) (c := p.2) (v := .tuple #[.agg (Of.c (makeO B (1 + n % 50) 1 (1 + n % 3) strSalt n)).toArray, .int .i64 (makeE B (1 + n % 50) 1 (1 + n % 3) strSalt n)]) rfl (by decide) rfl (goes_func rfl) (fun w1 hw1 => bk_make hw1 (show BkIn _ B b13 p.1 p.2 from ⟨(by first | exact mem0 | exact mem1 | exact mem2 | exact mem3 | exact mem4 | exact mem5), (by first | exact mem0 | exact mem1 | exact mem2 | exact mem3 | exact mem4 | exact mem5), hB.len⟩) hB.fit (1 + n % 50) 1 (1 + n % 3) strSalt n (by simp only [fits]; omega) ⟨by decide, by decide⟩ (by simp only [fits]; omega) hfn0 (by decide)) (fun _ => (by first | exact rep0 | exact rep1 | exact rep2 | exact rep3 | exact rep4 | exact rep5)) (fun _ => (by first | exact rep0 | exact rep1 | exact rep2 | exact rep3 | exact rep4 | exact rep5)) (fun pm => ?_)
            refine jl_nil ?_
            refine jq_block ?_
            refine jq_then ?_
            refine jc_region ?_
            refine jz ?_
            refine jy (y_add_fits rfl rfl (by simp only [fits]; omega)) ?_
            refine jz ?_
            refine jl_nil ?_
            refine jq_round3 (i := i) (j := B) (l := p) (i + 1) (makeB B (1 + n % 50) 1 (1 + n % 3) strSalt n) pm ?_ ?_ ?_
            ·omega
            ·exact ⟨rfl, rfl, rfl, lk_int rfl (by omega), trivial⟩
            ·exact fun _ h => ⟨⟨by omega, by omega, hB.make (by omega) (by omega) (by omega) (by simp only [fits]; omega) ⟨by decide, by decide⟩ (by simp only [fits]; omega) hfn0⟩, h⟩
            )
          )
        ·first
         | (exfalso; omega)
         | (
          refine jy (y_pick_true rfl rfl) ?_
          refine jnt ?_
          refine jc_false rfl ?_
          refine jc_exit ?_
          refine jq_then_exit ?_
          refine jq_then_exit ?_
          refine jq_hit ?_
          refine jq_then ?_
          refine jsr ?_
          refine jz ?_
          refine jl_fcall rfl (by decide) rfl (goes_func rfl) (fun w1 hw1 => bk_offers hw1 (show BkIn _ B b13 p.1 p.2 from ⟨(by first | exact mem0 | exact mem1 | exact mem2 | exact mem3 | exact mem4 | exact mem5), (by first | exact mem0 | exact mem1 | exact mem2 | exact mem3 | exact mem4 | exact mem5), hB.len⟩)) (fun b79 => ?_)
          refine jz ?_
          refine jnt ?_
          refine jc_seq ?_
          refine jsr ?_
          refine jz ?_
          refine jnt ?_
          refine jc_block ?_
          refine jc_loop2 (fun (j : Nat) (q : Option Addr × Nat) => [(3, .pointer (some ⟨b13, 0, none⟩)), (5, .pointer (some ⟨b19, 0, none⟩)), (8, .slice (some ⟨b79, 0, none⟩) B.l.length B.l.length), (9, .int .i64 (j : Nat))]) (fun (j : Nat) (q : Option Addr × Nat) => fun w' => j ≤ B.l.length ∧ Hp w [] [Bk.r B.l (some ⟨b79, 0, none⟩) B.l.length, Bk.r (B).l p.1 p.2, Bk.h B b13 p.1 p.2, Bk.r ((⟨strCh, strCh, nxt B.l j, B.l.take (j)⟩ : Bk)).l q.1 q.2, Bk.h (⟨strCh, strCh, nxt B.l j, B.l.take (j)⟩ : Bk) b19 q.1 q.2] w') (fun (j : Nat) (q : Option Addr × Nat) => B.l.length - j) 0 (none, 0) ?_ ?_ ?_
          ·exact ⟨rfl, rfl, rfl, rfl, trivial⟩
          ·exact fun _ h => ⟨by omega, h⟩
          ·intro j q
           refine jc_and (fun hj => ?_)
           have hl8 := hB.ok.len
           refine jc_seq ?_
           refine jsr ?_
           refine jz ?_
           refine jz ?_
           refine jy (y_len_slice rfl) ?_
           refine jy (y_lss rfl rfl) ?_
           refine jl_prop (fun h83 => ?_) (fun h83 => ?_)
           ·first
            | (exfalso; omega)
            | (
             have hlt : j < B.l.length := by omega
             obtain ⟨pe1, pe2, pe3⟩ := put_step hB.ok (by decide) strCh hlt
             have hfo := hB.fit.l _ (List.getElem_mem hlt)
             have hfs := (hB.fit.low _ (List.getElem_mem hlt)).2.2
             have hft := take_fit hB (j := j) (by omega)
             have hft1 := take_fit hB (j := j + 1) (by omega)
             have htl : (B.l.take j).length ≤ 1000 := by rw [List.length_take]; have := hB.len; omega
             have htl1 : (B.l.take (j + 1)).length ≤ 1000 := by rw [List.length_take]; have := hB.len; omega
             have hget := flat_at hlt rfl
             generalize hoe : B.l[j]'hlt = o at *
             refine jnt ?_
             refine jc_true rfl ?_
             refine jc_skip ?_
             refine jq_then ?_
             refine jc_seq ?_
             refine jc_block ?_
             refine jsr ?_
             refine jz ?_
             refine jz ?_
             refine jz ?_
             refine jy (y_indexAddr_slice (off := j * 9) rfl rfl (by omega) (by omega) (by omega)) ?_
             refine jy (y_loadAgg_row (us := Of.c o) rfl mem0 rfl hget) ?_
             refine jl_bcall (B := (⟨strCh, strCh, nxt B.l j, B.l.take (j)⟩ : Bk)) (B' := (⟨strCh, strCh, nxt B.l (j + 1), B.l.take (j + 1)⟩ : Bk)) (b := b19) (ad := q.1) (c := q.2) (v := .int .i64 0) rfl (by decide) rfl (goes_func rfl) (fun w1 hw1 => cb (bk_put hw1 (show BkIn _ (⟨strCh, strCh, nxt B.l j, B.l.take (j)⟩ : Bk) b19 q.1 q.2 from ⟨(by first | exact mem0 | exact mem1 | exact mem2 | exact mem3 | exact mem4 | exact mem5), (by first | exact mem0 | exact mem1 | exact mem2 | exact mem3 | exact mem4 | exact mem5), htl⟩) hft o hfo (by omega)) (by rw [pe1]) pe2) (fun _ => (by first | exact rep0 | exact rep1 | exact rep2 | exact rep3 | exact rep4 | exact rep5)) (fun _ => (by first | exact rep0 | exact rep1 | exact rep2 | exact rep3 | exact rep4 | exact rep5)) (fun qa => ?_)
             refine jy (y_neq rfl rfl) ?_
             refine jl_prop (fun h92 => ?_) (fun h92 => ?_)
             ·exact absurd rfl (by assumption)
             ·first
              | (exfalso; omega)
              | (
               refine jz ?_
               refine jz ?_
               refine jz ?_
               refine jz ?_
               refine jy (y_indexAddr_slice (off := j * 9) rfl rfl (by omega) (by omega) (by omega)) ?_
               refine jy (y_loadAgg_row (us := Of.c o) rfl mem0 rfl hget) ?_
               refine jl_bcall (B := (⟨strCh, strCh, nxt B.l (j + 1), B.l.take (j + 1)⟩ : Bk)) (B' := (⟨strCh, strCh, nxt B.l (j + 1), B.l.take (j + 1)⟩ : Bk)) (b := b19) (ad := qa.1) (c := qa.2) (v := .int .i64 7) rfl (by decide) rfl (goes_func rfl) (fun w1 hw1 => cb (bk_put hw1 (show BkIn _ (⟨strCh, strCh, nxt B.l (j + 1), B.l.take (j + 1)⟩ : Bk) b19 qa.1 qa.2 from ⟨(by first | exact mem0 | exact mem1 | exact mem2 | exact mem3 | exact mem4 | exact mem5), (by first | exact mem0 | exact mem1 | exact mem2 | exact mem3 | exact mem4 | exact mem5), htl1⟩) hft1 o hfo (by omega)) (by rw [pe3]) (show putB _ o = _ by unfold putB; rw [if_neg (by rw [pe3]; decide)])) (fun _ => (by first | exact rep0 | exact rep1 | exact rep2 | exact rep3 | exact rep4 | exact rep5)) (fun _ => (by first | exact rep0 | exact rep1 | exact rep2 | exact rep3 | exact rep4 | exact rep5)) (fun qb => ?_)
               refine jy (y_neq rfl rfl) ?_
               refine jl_prop (fun h100 => ?_) (fun h100 => ?_)
               ·exact absurd rfl (by assumption)
               ·first
                | (exfalso; omega)
                | (
                 refine jy (y_pick_false rfl rfl) ?_
                 refine jnt ?_
                 refine jc_false rfl ?_
                 refine jc_skip ?_
                 refine jq_block ?_
                 refine jq_then ?_
                 refine jc_region ?_
                 refine jz ?_
                 refine jy (y_add_fits rfl rfl (by simp only [fits]; omega)) ?_
                 refine jz ?_
                 refine jl_nil ?_
                 refine jq_round2 (i := j) (j := q) (j + 1) qb ?_ ?_ ?_
                 ·omega
                 ·exact ⟨rfl, rfl, rfl, lk_int rfl (by omega), trivial⟩
                 ·exact fun _ h => ⟨by omega, h⟩
                 )
               )
             )
           ·first
            | (exfalso; omega)
            | (
             refine jnt ?_
             refine jc_false rfl ?_
             refine jc_exit ?_
             refine jq_then_exit ?_
             refine jq_then_exit ?_
             refine jq_hit ?_
             refine jq_then ?_
             refine jc_seq ?_
             refine jc_seq ?_
             have hje : j = B.l.length := by omega
             subst hje
             refine jc_region ?_
             refine jz ?_
             refine jl_fcall rfl (by decide) rfl (goes_func rfl) (fun w1 hw1 => bk_offers hw1 (show BkIn _ (⟨strCh, strCh, nxt B.l B.l.length, B.l.take (B.l.length)⟩ : Bk) b19 q.1 q.2 from ⟨(by first | exact mem0 | exact mem1 | exact mem2 | exact mem3 | exact mem4 | exact mem5), (by first | exact mem0 | exact mem1 | exact mem2 | exact mem3 | exact mem4 | exact mem5), (by rw [List.length_take]; have := hB.len; omega)⟩)) (fun b103 => ?_)
             refine jl_fcall rfl (by decide) rfl (goes_func rfl) (fun w1 hw1 => lrefs_any _ _ (B.l.take B.l.length) w1 (by rw [List.length_take]; have := hB.len; omega) (ElAt.of_row (c := Of.c) (fun _ => rfl) rfl (hw1.get mem0))) (fun p104 => ?_)
             refine jz ?_
             refine jl_fcall rfl (by decide) rfl (goes_func rfl) (fun w1 hw1 => lrefs_any _ _ B.l w1 hB.len (ElAt.of_row (c := Of.c) (fun _ => rfl) rfl (hw1.get mem2))) (fun p106 => ?_)
             refine jpc (goes_func rfl) (fun w1 hw1 => lsame_any _ _ _ _ (B.l.take B.l.length) B.l w1 (by rw [List.length_take]; have := hB.len; omega) hB.len (ElAt.of_row (c := Of.c) (fun _ => rfl) rfl (hw1.get mem1)) (ElAt.of_row (c := Of.c) (fun _ => rfl) rfl (hw1.get mem0))) ?_
             refine jl_as (u := .bool true) (congrArg Value.bool (decide_eq_true List.take_length)) ?_
             refine jz ?_
             refine jz ?_
             refine jz ?_
             refine jpc (goes_func rfl) (fun w1 hw1 => bk_open hw1 (show BkIn _ (⟨strCh, strCh, nxt B.l B.l.length, B.l.take (B.l.length)⟩ : Bk) b19 q.1 q.2 from ⟨(by first | exact mem0 | exact mem1 | exact mem2 | exact mem3 | exact mem4 | exact mem5 | exact .tail _ mem5 | exact .tail _ (.tail _ mem5)), (by first | exact mem0 | exact mem1 | exact mem2 | exact mem3 | exact mem4 | exact mem5 | exact .tail _ mem5 | exact .tail _ (.tail _ mem5)), (by rw [List.length_take]; have := hB.len; omega)⟩)) ?_
             refine jz ?_
             refine jpc (goes_func rfl) (fun w1 hw1 => bk_open hw1 (show BkIn _ B b13 p.1 p.2 from ⟨(by first | exact mem0 | exact mem1 | exact mem2 | exact mem3 | exact mem4 | exact mem5), (by first | exact mem0 | exact mem1 | exact mem2 | exact mem3 | exact mem4 | exact mem5), hB.len⟩)) ?_
             refine jy (y_neq rfl rfl) ?_
             refine jl_as (u := .bool false) (by rw [List.take_length]; exact congrArg Value.bool (by simp)) ?_
             refine jy (y_pick_false rfl rfl) ?_
             refine jnt ?_
             refine jc_false rfl ?_
             refine jc_skip ?_
             refine jq_then ?_
             refine jc_seq ?_
             refine jc_world (fun _ h => h.pop.pop.pop) ?_
             refine jc_draw (by kernel_rfl) (fun _ h => h.drew) ?_
             refine juz ?_
             refine juy (y_len_slice rfl) ?_
             refine juy (y_eql rfl rfl) ?_
             refine ju_prop (fun h118 => ?_) (fun h118 => ?_)
             ·first
              | (exfalso; omega)
              | (
               refine juz ?_
               refine ju_skip rfl (by decide) rfl ?_
               refine ju_skip rfl (by decide) rfl ?_
               refine ju_skip rfl (by decide) rfl ?_
               refine ju_skip rfl (by decide) rfl ?_
               refine ju_skip rfl (by decide) rfl ?_
               refine ju_skip rfl (by decide) rfl ?_
               refine ju_skip rfl (by decide) rfl ?_
               refine ju_skip rfl (by decide) rfl ?_
               refine ju_skip rfl (by decide) rfl ?_
               refine ju_skip rfl (by decide) rfl ?_
               refine ju_skip rfl (by decide) rfl ?_
               refine juy (y_pick_true rfl rfl) ?_
               refine juz ?_
               refine ju_skip rfl (by decide) rfl ?_
               refine ju_skip rfl (by decide) rfl ?_
               refine ju_skip rfl (by decide) rfl ?_
               refine ju_skip rfl (by decide) rfl ?_
               refine ju_skip rfl (by decide) rfl ?_
               refine juy (y_pick_true rfl rfl) ?_
               refine juz ?_
               refine ju_call rfl (by decide) rfl (goes_func rfl) (fun w1 hw1 => pcall hw1 (fixed16_any w1)) ?_
               refine juy (y_pick_true rfl rfl) ?_
               refine juz ?_
               refine ju_nil ?_
               refine jq_then ?_
               refine jc_ret ?_
               refine jq_ret1 rfl rfl ?_
               exact fun _ hw => ⟨rfl, hw.ch⟩
               )
             ·first
              | (exfalso; omega)
              | (
               obtain ⟨m, hm⟩ : ∃ m, B.l.length = m + 1 := ⟨B.l.length - 1, by omega⟩
               have hlm : m < B.l.length := by omega
               have hser := flat_at hlm rfl 1 _ rfl
               have hnl := nxt_last hm (o := B.l[m]'hlm) rfl
               have hl8 := hB.ok.len
               have hgl := (hB.ok.good _ (List.getElem_mem hlm)).high
               have hgl1 := (hB.ok.good _ (List.getElem_mem hlm)).low
               generalize hoe : B.l[m]'hlm = o at *
               refine juz ?_
               refine juz ?_
               refine juz ?_
               refine juy (y_len_slice rfl) ?_
               refine juy (y_sub_fits rfl rfl (by simp only [fits]; omega)) ?_
               refine ju_as (u := .int .i64 (m : Nat)) (congrArg (Value.int .i64) (by omega)) ?_
               refine juy (y_indexAddr_slice (off := m * 9) rfl rfl (by omega) (by omega) (by omega)) ?_
               refine juz ?_
               refine juy (y_load_row rfl mem0 hser) ?_
               refine juy (y_add_u64 rfl rfl) ?_
               refine ju_as (u := .int .u64 (o.serial + 1)) (congrArg (Value.int .u64) (by omega)) ?_
               refine juz ?_
               refine ju_call rfl (by decide) rfl (goes_func rfl) (fun w1 hw1 => pcall hw1 (bk_next hw1 (show BkIn _ B b13 p.1 p.2 from ⟨(by first | exact mem0 | exact mem1 | exact mem2 | exact mem3 | exact mem4 | exact mem5), (by first | exact mem0 | exact mem1 | exact mem2 | exact mem3 | exact mem4 | exact mem5), hB.len⟩))) ?_
               refine juy (y_neq rfl rfl) ?_
               refine ju_prop (fun h130 => ?_) (fun h130 => ?_)
               ·first
                | (exfalso; omega)
                | (
                 refine juy (y_pick_false rfl rfl) ?_
                 refine juz ?_
                 refine ju_skip rfl (by decide) rfl ?_
                 refine ju_skip rfl (by decide) rfl ?_
                 refine ju_skip rfl (by decide) rfl ?_
                 refine ju_skip rfl (by decide) rfl ?_
                 refine ju_skip rfl (by decide) rfl ?_
                 refine juy (y_pick_true rfl rfl) ?_
                 refine juz ?_
                 refine ju_call rfl (by decide) rfl (goes_func rfl) (fun w1 hw1 => pcall hw1 (fixed16_any w1)) ?_
                 refine juy (y_pick_true rfl rfl) ?_
                 refine juz ?_
                 refine ju_nil ?_
                 refine jq_then ?_
                 refine jc_ret ?_
                 refine jq_ret1 rfl rfl ?_
                 exact fun _ hw => ⟨rfl, hw.ch⟩
                 )
               ·first
                | (exfalso; omega)
                | (
                 refine juy (y_pick_false rfl rfl) ?_
                 refine juz ?_
                 refine juz ?_
                 refine ju_call rfl (by decide) rfl (goes_func rfl) (fun w1 hw1 => pcall hw1 (bk_next hw1 (show BkIn _ (⟨strCh, strCh, nxt B.l B.l.length, B.l.take (B.l.length)⟩ : Bk) b19 q.1 q.2 from ⟨(by first | exact mem0 | exact mem1 | exact mem2 | exact mem3 | exact mem4 | exact mem5), (by first | exact mem0 | exact mem1 | exact mem2 | exact mem3 | exact mem4 | exact mem5), (by rw [List.length_take]; have := hB.len; omega)⟩))) ?_
                 refine ju_as (u := .int .u64 (o.serial + 1)) (congrArg (Value.int .u64) hnl) ?_
                 refine juz ?_
                 refine ju_call rfl (by decide) rfl (goes_func rfl) (fun w1 hw1 => pcall hw1 (bk_next hw1 (show BkIn _ B b13 p.1 p.2 from ⟨(by first | exact mem0 | exact mem1 | exact mem2 | exact mem3 | exact mem4 | exact mem5), (by first | exact mem0 | exact mem1 | exact mem2 | exact mem3 | exact mem4 | exact mem5), hB.len⟩))) ?_
                 refine juy (y_eql rfl rfl) ?_
                 refine ju_as (u := .bool true) (congrArg Value.bool (decide_eq_true (by omega))) ?_
                 refine juy (y_pick_false rfl rfl) ?_
                 refine juz ?_
                 refine ju_call rfl (by decide) rfl (goes_func rfl) (fun w1 hw1 => pcall hw1 (fixed16_any w1)) ?_
                 refine juy (y_pick_true rfl rfl) ?_
                 refine juz ?_
                 refine ju_nil ?_
                 refine jq_then ?_
                 refine jc_ret ?_
                 refine jq_ret1 rfl rfl ?_
                 exact fun _ hw => ⟨rfl, hw.ch⟩
                 )
               )
             )
          )
        )
      ·first
       | (exfalso; omega)
       | (
        refine jz ?_
        refine jsk ?_
        refine jsk ?_
        refine jy (y_pick_false rfl rfl) ?_
        refine jnt ?_
        refine jc_false rfl ?_
        refine jc_exit ?_
        refine jq_then_exit ?_
        refine jq_then_exit ?_
        refine jq_hit ?_
        refine jq_then ?_
        refine jsr ?_
        refine jz ?_
        refine jl_fcall rfl (by decide) rfl (goes_func rfl) (fun w1 hw1 => bk_offers hw1 (show BkIn _ B b13 p.1 p.2 from ⟨(by first | exact mem0 | exact mem1 | exact mem2 | exact mem3 | exact mem4 | exact mem5), (by first | exact mem0 | exact mem1 | exact mem2 | exact mem3 | exact mem4 | exact mem5), hB.len⟩)) (fun b79 => ?_)
        refine jz ?_
        refine jnt ?_
        refine jc_seq ?_
        refine jsr ?_
        refine jz ?_
        refine jnt ?_
        refine jc_block ?_
        refine jc_loop2 (fun (j : Nat) (q : Option Addr × Nat) => [(3, .pointer (some ⟨b13, 0, none⟩)), (5, .pointer (some ⟨b19, 0, none⟩)), (8, .slice (some ⟨b79, 0, none⟩) B.l.length B.l.length), (9, .int .i64 (j : Nat))]) (fun (j : Nat) (q : Option Addr × Nat) => fun w' => j ≤ B.l.length ∧ Hp w [] [Bk.r B.l (some ⟨b79, 0, none⟩) B.l.length, Bk.r (B).l p.1 p.2, Bk.h B b13 p.1 p.2, Bk.r ((⟨strCh, strCh, nxt B.l j, B.l.take (j)⟩ : Bk)).l q.1 q.2, Bk.h (⟨strCh, strCh, nxt B.l j, B.l.take (j)⟩ : Bk) b19 q.1 q.2] w') (fun (j : Nat) (q : Option Addr × Nat) => B.l.length - j) 0 (none, 0) ?_ ?_ ?_
        ·exact ⟨rfl, rfl, rfl, rfl, trivial⟩
        ·exact fun _ h => ⟨by omega, h⟩
        ·intro j q
         refine jc_and (fun hj => ?_)
         have hl8 := hB.ok.len
         refine jc_seq ?_
         refine jsr ?_
         refine jz ?_
         refine jz ?_
         refine jy (y_len_slice rfl) ?_
         refine jy (y_lss rfl rfl) ?_
         refine jl_prop (fun h83 => ?_) (fun h83 => ?_)
         ·first
          | (exfalso; omega)
          | (
           have hlt : j < B.l.length := by omega
           obtain ⟨pe1, pe2, pe3⟩ := put_step hB.ok (by decide) strCh hlt
           have hfo := hB.fit.l _ (List.getElem_mem hlt)
           have hfs := (hB.fit.low _ (List.getElem_mem hlt)).2.2
           have hft := take_fit hB (j := j) (by omega)
           have hft1 := take_fit hB (j := j + 1) (by omega)
           have htl : (B.l.take j).length ≤ 1000 := by rw [List.length_take]; have := hB.len; omega
           have htl1 : (B.l.take (j + 1)).length ≤ 1000 := by rw [List.length_take]; have := hB.len; omega
           have hget := flat_at hlt rfl
           generalize hoe : B.l[j]'hlt = o at *
           refine jnt ?_
           refine jc_true rfl ?_
           refine jc_skip ?_
           refine jq_then ?_
           refine jc_seq ?_
           refine jc_block ?_
           refine jsr ?_
           refine jz ?_
           refine jz ?_
           refine jz ?_
           refine jy (y_indexAddr_slice (off := j * 9) rfl rfl (by omega) (by omega) (by omega)) ?_
           refine jy (y_loadAgg_row (us := Of.c o) rfl mem0 rfl hget) ?_
           refine jl_bcall (B := (⟨strCh, strCh, nxt B.l j, B.l.take (j)⟩ : Bk)) (B' := (⟨strCh, strCh, nxt B.l (j + 1), B.l.take (j + 1)⟩ : Bk)) (b := b19) (ad := q.1) (c := q.2) (v := .int .i64 0) rfl (by decide) rfl (goes_func rfl) (fun w1 hw1 => cb (bk_put hw1 (show BkIn _ (⟨strCh, strCh, nxt B.l j, B.l.take (j)⟩ : Bk) b19 q.1 q.2 from ⟨(by first | exact mem0 | exact mem1 | exact mem2 | exact mem3 | exact mem4 | exact mem5), (by first | exact mem0 | exact mem1 | exact mem2 | exact mem3 | exact mem4 | exact mem5), htl⟩) hft o hfo (by omega)) (by rw [pe1]) pe2) (fun _ => (by first | exact rep0 | exact rep1 | exact rep2 | exact rep3 | exact rep4 | exact rep5)) (fun _ => (by first | exact rep0 | exact rep1 | exact rep2 | exact rep3 | exact rep4 | exact rep5)) (fun qa => ?_)
           refine jy (y_neq rfl rfl) ?_
           refine jl_prop (fun h92 => ?_) (fun h92 => ?_)
           ·exact absurd rfl (by assumption)
           ·first
            | (exfalso; omega)
            | (
             refine jz ?_
             refine jz ?_
             refine jz ?_
             refine jz ?_
             refine jy (y_indexAddr_slice (off := j * 9) rfl rfl (by omega) (by omega) (by omega)) ?_
             refine jy (y_loadAgg_row (us := Of.c o) rfl mem0 rfl hget) ?_
             refine jl_bcall (B := (⟨strCh, strCh, nxt B.l (j + 1), B.l.take (j + 1)⟩ : Bk)) (B' := (⟨strCh, strCh, nxt B.l (j + 1), B.l.take (j + 1)⟩ : Bk)) (b := b19) (ad := qa.1) (c := qa.2) (v := .int .i64 7) rfl (by decide) rfl (goes_func rfl) (fun w1 hw1 => cb (bk_put hw1 (show BkIn _ (⟨strCh, strCh, nxt B.l (j + 1), B.l.take (j + 1)⟩ : Bk) b19 qa.1 qa.2 from ⟨(by first | exact mem0 | exact mem1 | exact mem2 | exact mem3 | exact mem4 | exact mem5), (by first | exact mem0 | exact mem1 | exact mem2 | exact mem3 | exact mem4 | exact mem5), htl1⟩) hft1 o hfo (by omega)) (by rw [pe3]) (show putB _ o = _ by unfold putB; rw [if_neg (by rw [pe3]; decide)])) (fun _ => (by first | exact rep0 | exact rep1 | exact rep2 | exact rep3 | exact rep4 | exact rep5)) (fun _ => (by first | exact rep0 | exact rep1 | exact rep2 | exact rep3 | exact rep4 | exact rep5)) (fun qb => ?_)
             refine jy (y_neq rfl rfl) ?_
             refine jl_prop (fun h100 => ?_) (fun h100 => ?_)
             ·exact absurd rfl (by assumption)
             ·first
              | (exfalso; omega)
              | (
               refine jy (y_pick_false rfl rfl) ?_
               refine jnt ?_
               refine jc_false rfl ?_
               refine jc_skip ?_
               refine jq_block ?_
               refine jq_then ?_
               refine jc_region ?_
               refine jz ?_
               refine jy (y_add_fits rfl rfl (by simp only [fits]; omega)) ?_
               refine jz ?_
               refine jl_nil ?_
               refine jq_round2 (i := j) (j := q) (j + 1) qb ?_ ?_ ?_
               ·omega
               ·exact ⟨rfl, rfl, rfl, lk_int rfl (by omega), trivial⟩
               ·exact fun _ h => ⟨by omega, h⟩
               )
             )
           )
         ·first
          | (exfalso; omega)
          | (
           refine jnt ?_
           refine jc_false rfl ?_
           refine jc_exit ?_
           refine jq_then_exit ?_
           refine jq_then_exit ?_
           refine jq_hit ?_
           refine jq_then ?_
           refine jc_seq ?_
           refine jc_seq ?_
           have hje : j = B.l.length := by omega
           subst hje
           refine jc_region ?_
           refine jz ?_
           refine jl_fcall rfl (by decide) rfl (goes_func rfl) (fun w1 hw1 => bk_offers hw1 (show BkIn _ (⟨strCh, strCh, nxt B.l B.l.length, B.l.take (B.l.length)⟩ : Bk) b19 q.1 q.2 from ⟨(by first | exact mem0 | exact mem1 | exact mem2 | exact mem3 | exact mem4 | exact mem5), (by first | exact mem0 | exact mem1 | exact mem2 | exact mem3 | exact mem4 | exact mem5), (by rw [List.length_take]; have := hB.len; omega)⟩)) (fun b103 => ?_)
           refine jl_fcall rfl (by decide) rfl (goes_func rfl) (fun w1 hw1 => lrefs_any _ _ (B.l.take B.l.length) w1 (by rw [List.length_take]; have := hB.len; omega) (ElAt.of_row (c := Of.c) (fun _ => rfl) rfl (hw1.get mem0))) (fun p104 => ?_)
           refine jz ?_
           refine jl_fcall rfl (by decide) rfl (goes_func rfl) (fun w1 hw1 => lrefs_any _ _ B.l w1 hB.len (ElAt.of_row (c := Of.c) (fun _ => rfl) rfl (hw1.get mem2))) (fun p106 => ?_)
           refine jpc (goes_func rfl) (fun w1 hw1 => lsame_any _ _ _ _ (B.l.take B.l.length) B.l w1 (by rw [List.length_take]; have := hB.len; omega) hB.len (ElAt.of_row (c := Of.c) (fun _ => rfl) rfl (hw1.get mem1)) (ElAt.of_row (c := Of.c) (fun _ => rfl) rfl (hw1.get mem0))) ?_
           refine jl_as (u := .bool true) (congrArg Value.bool (decide_eq_true List.take_length)) ?_
           refine jz ?_
           refine jz ?_
           refine jz ?_
           refine jpc (goes_func rfl) (fun w1 hw1 => bk_open hw1 (show BkIn _ (⟨strCh, strCh, nxt B.l B.l.length, B.l.take (B.l.length)⟩ : Bk) b19 q.1 q.2 from ⟨(by first | exact mem0 | exact mem1 | exact mem2 | exact mem3 | exact mem4 | exact mem5 | exact .tail _ mem5 | exact .tail _ (.tail _ mem5)), (by first | exact mem0 | exact mem1 | exact mem2 | exact mem3 | exact mem4 | exact mem5 | exact .tail _ mem5 | exact .tail _ (.tail _ mem5)), (by rw [List.length_take]; have := hB.len; omega)⟩)) ?_
           refine jz ?_
           refine jpc (goes_func rfl) (fun w1 hw1 => bk_open hw1 (show BkIn _ B b13 p.1 p.2 from ⟨(by first | exact mem0 | exact mem1 | exact mem2 | exact mem3 | exact mem4 | exact mem5), (by first | exact mem0 | exact mem1 | exact mem2 | exact mem3 | exact mem4 | exact mem5), hB.len⟩)) ?_
           refine jy (y_neq rfl rfl) ?_
           refine jl_as (u := .bool false) (by rw [List.take_length]; exact congrArg Value.bool (by simp)) ?_
           refine jy (y_pick_false rfl rfl) ?_
           refine jnt ?_
           refine jc_false rfl ?_
           refine jc_skip ?_
           refine jq_then ?_
           refine jc_seq ?_
           refine jc_world (fun _ h => h.pop.pop.pop) ?_
           refine jc_draw (by kernel_rfl) (fun _ h => h.drew) ?_
           refine juz ?_
           refine juy (y_len_slice rfl) ?_
           refine juy (y_eql rfl rfl) ?_
           refine ju_prop (fun h118 => ?_) (fun h118 => ?_)
           ·first
            | (exfalso; omega)
            | (
             refine juz ?_
             refine ju_skip rfl (by decide) rfl ?_
             refine ju_skip rfl (by decide) rfl ?_
             refine ju_skip rfl (by decide) rfl ?_
             refine ju_skip rfl (by decide) rfl ?_
             refine ju_skip rfl (by decide) rfl ?_
             refine ju_skip rfl (by decide) rfl ?_
             refine ju_skip rfl (by decide) rfl ?_
             refine ju_skip rfl (by decide) rfl ?_
             refine ju_skip rfl (by decide) rfl ?_
             refine ju_skip rfl (by decide) rfl ?_
             refine ju_skip rfl (by decide) rfl ?_
             refine juy (y_pick_true rfl rfl) ?_
             refine juz ?_
             refine ju_skip rfl (by decide) rfl ?_
             refine ju_skip rfl (by decide) rfl ?_
             refine ju_skip rfl (by decide) rfl ?_
             refine ju_skip rfl (by decide) rfl ?_
             refine ju_skip rfl (by decide) rfl ?_
             refine juy (y_pick_true rfl rfl) ?_
             refine juz ?_
             refine ju_call rfl (by decide) rfl (goes_func rfl) (fun w1 hw1 => pcall hw1 (fixed16_any w1)) ?_
             refine juy (y_pick_true rfl rfl) ?_
             refine juz ?_
             refine ju_nil ?_
             refine jq_then ?_
             refine jc_ret ?_
             refine jq_ret1 rfl rfl ?_
             exact fun _ hw => ⟨rfl, hw.ch⟩
             )
           ·first
            | (exfalso; omega)
            | (
             obtain ⟨m, hm⟩ : ∃ m, B.l.length = m + 1 := ⟨B.l.length - 1, by omega⟩
             have hlm : m < B.l.length := by omega
             have hser := flat_at hlm rfl 1 _ rfl
             have hnl := nxt_last hm (o := B.l[m]'hlm) rfl
             have hl8 := hB.ok.len
             have hgl := (hB.ok.good _ (List.getElem_mem hlm)).high
             have hgl1 := (hB.ok.good _ (List.getElem_mem hlm)).low
             generalize hoe : B.l[m]'hlm = o at *
             refine juz ?_
             refine juz ?_
             refine juz ?_
             refine juy (y_len_slice rfl) ?_
             refine juy (y_sub_fits rfl rfl (by simp only [fits]; omega)) ?_
             refine ju_as (u := .int .i64 (m : Nat)) (congrArg (Value.int .i64) (by omega)) ?_
             refine juy (y_indexAddr_slice (off := m * 9) rfl rfl (by omega) (by omega) (by omega)) ?_
             refine juz ?_
             refine juy (y_load_row rfl mem0 hser) ?_
             refine juy (y_add_u64 rfl rfl) ?_
             refine ju_as (u := .int .u64 (o.serial + 1)) (congrArg (Value.int .u64) (by omega)) ?_
             refine juz ?_
             refine ju_call rfl (by decide) rfl (goes_func rfl) (fun w1 hw1 => pcall hw1 (bk_next hw1 (show BkIn _ B b13 p.1 p.2 from ⟨(by first | exact mem0 | exact mem1 | exact mem2 | exact mem3 | exact mem4 | exact mem5), (by first | exact mem0 | exact mem1 | exact mem2 | exact mem3 | exact mem4 | exact mem5), hB.len⟩))) ?_
             refine juy (y_neq rfl rfl) ?_
             refine ju_prop (fun h130 => ?_) (fun h130 => ?_)
             ·first
              | (exfalso; omega)
              | (
               refine juy (y_pick_false rfl rfl) ?_
               refine juz ?_
               refine ju_skip rfl (by decide) rfl ?_
               refine ju_skip rfl (by decide) rfl ?_
               refine ju_skip rfl (by decide) rfl ?_
               refine ju_skip rfl (by decide) rfl ?_
               refine ju_skip rfl (by decide) rfl ?_
               refine juy (y_pick_true rfl rfl) ?_
               refine juz ?_
               refine ju_call rfl (by decide) rfl (goes_func rfl) (fun w1 hw1 => pcall hw1 (fixed16_any w1)) ?_
               refine juy (y_pick_true rfl rfl) ?_
               refine juz ?_
               refine ju_nil ?_
               refine jq_then ?_
               refine jc_ret ?_
               refine jq_ret1 rfl rfl ?_
               exact fun _ hw => ⟨rfl, hw.ch⟩
               )
             ·first
              | (exfalso; omega)
              | (
               refine juy (y_pick_false rfl rfl) ?_
               refine juz ?_
               refine juz ?_
               refine ju_call rfl (by decide) rfl (goes_func rfl) (fun w1 hw1 => pcall hw1 (bk_next hw1 (show BkIn _ (⟨strCh, strCh, nxt B.l B.l.length, B.l.take (B.l.length)⟩ : Bk) b19 q.1 q.2 from ⟨(by first | exact mem0 | exact mem1 | exact mem2 | exact mem3 | exact mem4 | exact mem5), (by first | exact mem0 | exact mem1 | exact mem2 | exact mem3 | exact mem4 | exact mem5), (by rw [List.length_take]; have := hB.len; omega)⟩))) ?_
               refine ju_as (u := .int .u64 (o.serial + 1)) (congrArg (Value.int .u64) hnl) ?_
               refine juz ?_
               refine ju_call rfl (by decide) rfl (goes_func rfl) (fun w1 hw1 => pcall hw1 (bk_next hw1 (show BkIn _ B b13 p.1 p.2 from ⟨(by first | exact mem0 | exact mem1 | exact mem2 | exact mem3 | exact mem4 | exact mem5), (by first | exact mem0 | exact mem1 | exact mem2 | exact mem3 | exact mem4 | exact mem5), hB.len⟩))) ?_
               refine juy (y_eql rfl rfl) ?_
               refine ju_as (u := .bool true) (congrArg Value.bool (decide_eq_true (by omega))) ?_
               refine juy (y_pick_false rfl rfl) ?_
               refine juz ?_
               refine ju_call rfl (by decide) rfl (goes_func rfl) (fun w1 hw1 => pcall hw1 (fixed16_any w1)) ?_
               refine juy (y_pick_true rfl rfl) ?_
               refine juz ?_
               refine ju_nil ?_
               refine jq_then ?_
               refine jc_ret ?_
               refine jq_ret1 rfl rfl ?_
               exact fun _ hw => ⟨rfl, hw.ch⟩
               )
             )
           )
        )
     )
   )

end Go.Proofs.Ytghomncegjamfaa