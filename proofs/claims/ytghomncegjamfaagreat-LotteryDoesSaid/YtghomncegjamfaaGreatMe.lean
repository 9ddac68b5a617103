/- The walk of LotteryDoes. Written by program (walk.py) out of a table of contracts and invariants. -/
import Derived.Test.YtghomncegjamfaaGreatMb
import Derived.Test.YtghomncegjamfaaGreatRg
namespace Go.Proofs.YtghomncegjamfaaGreat
open Go.RowKit
set_option maxRecDepth 100000
set_option maxHeartbeats 2000000
set_option linter.unusedVariables false
set_option linter.unusedSimpArgs false
attribute [local irreducible] Yields Makes Writes
attribute [local irreducible] commitS signK rootK
/-- A call. -/
structure Opx where
  kind : Int
  o : Of
  raw : Int
  t : Tk
abbrev Opx.c (x : Opx) : List Value := [.int .i64 x.kind, .string x.o.chan, .int .u64 x.o.serial, .int .u64 x.o.face, .int .u64 x.o.wins, .int .u64 x.o.many, .string x.o.commit, .string x.o.salt, .int .u64 x.o.drawn, .bool x.o.taken, .int .u64 x.raw, .string x.t.chan, .int .u64 x.t.serial, .int .u64 x.t.face, .int .u64 x.t.wins, .int .u64 x.t.many, .string x.t.commit, .int .u64 x.t.client, .string x.t.sig]
structure Opx.Fit (x : Opx) : Prop where
  kind : fits .i64 x.kind
  o : x.o.Fit
  raw : fits .u64 x.raw
  t : x.t.Fit
theorem opx_o {x : Opx} : ∀ {j : Nat} {u : Value}, (Of.c x.o)[j]? = some u → (Opx.c x)[1 + j]? = some u
  | 0, _, h => h
  | 1, _, h => h
  | 2, _, h => h
  | 3, _, h => h
  | 4, _, h => h
  | 5, _, h => h
  | 6, _, h => h
  | 7, _, h => h
  | 8, _, h => h
  | j + 9, _, h => by cases h
def ct16 (t : Tk) : Tk := ⟨cutS t.chan 40, t.serial, t.face, t.wins, t.many, cutS t.commit 40, t.client, cutS t.sig 450⟩
theorem ct16_fit {t : Tk} (h : t.Fit) : (ct16 t).Fit := ⟨h.serial, h.face, h.wins, h.many, h.client⟩
theorem ctOf_fit {o : Of} (h : o.Fit) : (ctOf o).Fit := ⟨h.serial, h.face, h.wins, h.many, h.drawn⟩
def plB (B : Bk) (x : Opx) : Bk :=
  if x.kind = 0 then makeB B x.o.face x.o.wins x.o.many (cutS x.o.salt 40) x.raw else if x.kind = 1 then takeB B (ct16 x.t) else if x.kind = 2 then goneB B x.o.serial else putB B (ctOf x.o)
theorem fit_put {B : Bk} (h : B.Fit) (hc : B.chan.size ≤ 1000) {o : Of} (ho : o.Fit) : (putB B o).Fit := by
  unfold putB
  split
  · rename_i hz
    unfold putE at hz
    split at hz
    · rename_i hm
      obtain ⟨q1, q2, q3, q4, q5, q6, q7, q8⟩ := of_decide_eq_true (show decide _ = true from hm)
      split at hz
      · exact absurd hz (by decide)
      · have hl := room_len hz
        have hn := h.next
        simp only [fits] at hn
        refine ⟨by show fits .u64 (max B.next (o.serial + 1)); simp only [fits]; omega, fun x hx => ?_, fun x hx => ?_, by show (B.l ++ [o]).length ≤ 8; rw [List.length_append]; simp only [List.length_singleton]; omega⟩
        · rcases List.mem_append.1 hx with hx | hx
          · exact h.l x hx
          · rw [List.mem_singleton.1 hx]; exact ho
        · rcases List.mem_append.1 hx with hx | hx
          · exact h.low x hx
          · rw [List.mem_singleton.1 hx]; exact ⟨by rw [q1]; exact hc, by rw [q8]; exact commit_sz _ _, by omega⟩
    · exact absurd hz (by decide)
  · exact h
theorem fit_take {B : Bk} (h : B.Fit) (t : Tk) : (takeB B t).Fit := by
  unfold takeB
  split
  · rename_i hz
    have hr := find_range B.l t.serial
    have hi : ¬ findL B.l t.serial < 0 := fun hn => by
      unfold takeE at hz; rw [if_pos hn] at hz; exact absurd hz (by decide)
    have hmem : takeO B t ∈ B.l := by
      unfold takeO offAt
      rw [List.getD_eq_getElem?_getD, List.getElem?_eq_getElem (by omega)]
      exact List.getElem_mem _
    have hm : ∀ o ∈ B.l.set (findL B.l t.serial).toNat { takeO B t with taken := true }, o = { takeO B t with taken := true } ∨ o ∈ B.l := fun o ho => (List.mem_or_eq_of_mem_set ho).symm
    refine ⟨h.next, fun o ho => ?_, fun o ho => ?_, by show (B.l.set _ _).length ≤ 8; rw [List.length_set]; exact h.len⟩
    · rcases hm o ho with e | e
      · rw [e]; have := h.l _ hmem; exact ⟨this.serial, this.face, this.wins, this.many, this.drawn⟩
      · exact h.l o e
    · rcases hm o ho with e | e
      · rw [e]; have := h.low _ hmem; exact this
      · exact h.low o e
  · exact h
theorem put_chan (B : Bk) (o : Of) : (putB B o).chan = B.chan := by unfold putB; split <;> rfl
theorem take_chan (B : Bk) (t : Tk) : (takeB B t).chan = B.chan := by unfold takeB; split <;> rfl
/-- What is known of a book in the script. -/
structure DI (B : Bk) : Prop where
  fit : B.Fit
  chan : B.chan.size = 16
theorem DI.len {B : Bk} (h : DI B) : B.l.length ≤ 1000 := by have := h.fit.len; omega
theorem DI.face {B : Bk} (h : DI B) : ∀ x ∈ B.l, fits .u64 x.face := fun x hx => (h.fit.l x hx).face
theorem DI.play {B : Bk} (h : DI B) {x : Opx} (hx : x.Fit) : DI (plB B x) := by
  have hc : B.chan.size ≤ 1000 := by have := h.chan; omega
  unfold plB
  split
  · exact ⟨fit_make h.fit hc hx.o.face hx.o.wins hx.o.many hx.raw, by rw [(make_chan B _ _ _ _ _).1]; exact h.chan⟩
  · split
    · exact ⟨fit_take h.fit _, by rw [take_chan]; exact h.chan⟩
    · split
      · exact ⟨fit_gone h.fit _, by rw [(gone_chan B _).1]; exact h.chan⟩
      · exact ⟨fit_put h.fit hc (ctOf_fit hx.o), by rw [put_chan]; exact h.chan⟩
section
variable {P : Program} {n : Nat} {E : Env} {w0 : World} {S : List Nat} {H : List HA} {Q : Exit → Act → World → Prop} {ops : Array Oper} {tail : List Oper} {rest : List (Oper × Bool)} {o : Oper} {d f : Nat} {args : Array Value} {C : World → Prop}
theorem js_bcall {v : Value} {H1 H' : Option Addr × Nat → List HA} {B B' : Bk} {b c : Nat} {ad : Option Addr} (hd : o.dst = some d) (hn : d < n) (hg : want ops E o = some true) (hf : Goes P n E o f args)
    (hc : ∀ w, Hp w0 S H w → Calls P f args w fun e w' => ∃ pr : Option Addr × Nat, e = .returned v ∧ Upd w w' (B.h b ad c) (B'.h b pr.1 pr.2) ∧ RowT w w' (ad, c) pr B.l B'.l)
    (r : ∀ pr : Option Addr × Nat, Rep (B.h b ad c) (B'.h b pr.1 pr.2) H (H1 pr)) (r2 : ∀ pr : Option Addr × Nat, Rep (Bk.r B.l ad c) (Bk.r B'.l pr.1 pr.2) (H1 pr) (H' pr)) (hW : ∀ pr w, Hp w0 S (H' pr) w → C w) (k : ∀ pr, JS P n Q C (Hp w0 S (H' pr)) ops tail rest ((d, v) :: E)) : JS P n Q C (Hp w0 S H) ops tail ((o, false) :: rest) E :=
  js_call (v := fun _ => v) (W' := fun pr => Hp w0 S (H' pr)) hW hd hn hg hf (fun w hw => (hc w hw).mono fun _ _ ⟨pr, he, h1, h2⟩ => ⟨pr, he, book_hp hw (r pr) (r2 pr) h1 h2⟩) k
theorem js_tcall {ι : Type} {v : ι → Value} {As F : List HA} {Bs : ι → List HA} (s : Sp As H F) (hd : o.dst = some d) (hn : d < n) (hg : want ops E o = some true) (hf : Goes P n E o f args)
    (hc : ∀ w, Hp w0 S H w → Calls P f args w fun e w' => ∃ b, e = .returned (v b) ∧ Hp w (feetL As) (Bs b) w') (hW : ∀ b w, Hp w0 S (Bs b ++ F) w → C w) (k : ∀ b, JS P n Q C (Hp w0 S (Bs b ++ F)) ops tail rest ((d, v b) :: E)) : JS P n Q C (Hp w0 S H) ops tail ((o, false) :: rest) E :=
  js_call (v := v) (W' := fun b => Hp w0 S (Bs b ++ F)) hW hd hn hg hf (fun w hw => (hc w hw).mono fun _ _ ⟨b, he, h⟩ => ⟨b, he, hw.turned s h⟩) k
end
theorem Rep.app {A A' : HA} {H H' : List HA} (r : Rep A A' H H') : ∀ X : List HA, Rep A A' (X ++ H) (X ++ H')
  | [] => r
  | _ :: X => .tail (r.app X)
/-- A call that turns a book whose row another book has too. -/
theorem spoil_hp {w0 w w' : World} {S : List Nat} {H H1 : List HA} {B B' : Bk} {b c : Nat} {ad : Option Addr} {pr : Option Addr × Nat} (hw : Hp w0 S H w) (r : Rep (B.h b ad c) (B'.h b pr.1 pr.2) H H1) (hm : Bk.r B.l ad c ∈ H1)
    (hu : Upd w w' (B.h b ad c) (B'.h b pr.1 pr.2)) (hr : RowT w w' (ad, c) pr B.l B'.l) : ∃ X : List HA, Bk.r B'.l pr.1 pr.2 ∈ X ++ H1 ∧ Hp w0 S (X ++ H1) w' := by
  have h1 : Hp w0 S H1 w' := hu.hp hw r rfl
  rcases hr with ⟨e1, e2⟩ | ⟨hok, hn⟩
  · refine ⟨[], ?_, h1⟩
    rw [show Bk.r B'.l pr.1 pr.2 = Bk.r B.l ad c by rw [e1, e2]]
    exact hm
  · refine ⟨[Bk.r B'.l pr.1 pr.2], .head _, h1.cons (A := Bk.r B'.l pr.1 pr.2) hok (fun k hk => .inl (Nat.le_trans hw.ch.size (hn k hk))) fun D hD k hk hd => ?_⟩
    have h3 := hn k hk
    rcases r.old hD with e | hDH
    · subst e
      have := HA.lt (hw.ok _ r.mem) (k := k) hd
      omega
    · have := HA.lt (hw.ok _ hDH) hd
      omega
section
variable {P : Program} {n : Nat} {E : Env} {w0 : World} {S : List Nat} {H : List HA} {Q : Exit → Act → World → Prop} {ops : Array Oper} {rest : List Oper} {o : Oper} {d f : Nat} {args : Array Value} {v : Value}
theorem jl_scall {H1 : Option Addr × Nat → List HA} {B B' : Bk} {b c : Nat} {ad : Option Addr} (hd : o.dst = some d) (hn : d < n) (hg : want ops E o = some true) (hf : Goes P n E o f args)
    (hc : ∀ w, Hp w0 S H w → Calls P f args w fun e w' => ∃ pr : Option Addr × Nat, e = .returned v ∧ Upd w w' (B.h b ad c) (B'.h b pr.1 pr.2) ∧ RowT w w' (ad, c) pr B.l B'.l)
    (r : ∀ pr : Option Addr × Nat, Rep (B.h b ad c) (B'.h b pr.1 pr.2) H (H1 pr)) (hm : ∀ pr, Bk.r B.l ad c ∈ H1 pr) (k : ∀ (pr : Option Addr × Nat) (X : List HA), Bk.r B'.l pr.1 pr.2 ∈ X ++ H1 pr → JL P n Q (Hp w0 S (X ++ H1 pr)) ops rest ((d, v) :: E)) : JL P n Q (Hp w0 S H) ops (o :: rest) E :=
  jl_call (ι := { x : (Option Addr × Nat) × List HA // Bk.r B'.l x.1.1 x.1.2 ∈ x.2 ++ H1 x.1 }) (v := fun _ => v) (W' := fun x => Hp w0 S (x.1.2 ++ H1 x.1.1)) hd hn hg hf
    (fun w hw => (hc w hw).mono fun _ _ ⟨pr, he, h1, h2⟩ => let ⟨X, h3, h4⟩ := spoil_hp hw (r pr) (hm pr) h1 h2; ⟨⟨(pr, X), h3⟩, he, h4⟩) fun x => k x.1.1 x.1.2 x.2
end

theorem lcuttk_any (t : Tk) (w : World) :
  Calls Tryz.prog 31 #[.agg (Tk.c t).toArray] w fun e w' => e = .returned (.agg (Tk.c (ct16 t)).toArray) ∧ Ch [] w w' := by
 refine calls_of (n := 28) (E := [(0, .agg (Tk.c t).toArray)]) (W := Hp w [] []) Tryz.func31 rfl rfl (Nat.le_of_ble_eq_true rfl) rfl (Hp.nil _ _) ?_; refine jsr ?_; refine jl_m rfl (by decide) rfl (m_box rfl rfl) (fun b1 => ?_); refine jl_m rfl (by decide) rfl (m_alloc) (fun b2 => ?_); refine jnt ?_; refine jsr ?_; (iterate 4 refine jz ?_); refine jy (y_len_str rfl) ?_; refine jy (y_min rfl rfl) ?_; refine jy (y_substr_hi rfl rfl (by omega) (by omega)) ?_; refine jl_as (congrArg Value.string (cut_eq _ 40)) ?_; refine jz ?_; refine jst ?_; refine jnt ?_; refine jsr ?_; (iterate 4 refine jz ?_); refine jy (y_len_str rfl) ?_; refine jy (y_min rfl rfl) ?_; refine jy (y_substr_hi rfl rfl (by omega) (by omega)) ?_; refine jl_as (congrArg Value.string (cut_eq _ 40)) ?_; refine jz ?_; refine jst ?_; refine jnt ?_; refine jsr ?_; (iterate 4 refine jz ?_); refine jy (y_len_str rfl) ?_; refine jy (y_min rfl rfl) ?_; refine jy (y_substr_hi rfl rfl (by omega) (by omega)) ?_; refine jl_as (congrArg Value.string (cut_eq _ 450)) ?_; refine jz ?_; refine jst ?_; refine jnt ?_; refine jsr ?_; refine jz ?_; refine jst ?_; refine jnt ?_; refine jc_ret ?_; refine jq_res (.inl rfl) rfl (rca .nil) ?_; exact fun _ hw => ⟨rfl, hw.ch⟩

theorem lcopy_any (b : Nat) (ch cl : ByteArray) (nx : Int) (ad : Option Addr) (n c : Nat) (w : World) (h : Old w b 0 [.string ch, .string cl, .int .u64 nx, .slice ad n c]) :
  Calls Tryz.prog 6 #[.pointer (some ⟨b, 0, none⟩)] w fun e w' => ∃ b', e = .returned (.pointer (some ⟨b', 0, none⟩)) ∧ Fresh w w' (.cells b' [.string ch, .string cl, .int .u64 nx, .slice ad n c]) := by
 refine calls_of (n := 7) (E := [(0, .pointer (some ⟨b, 0, none⟩))]) (W := Hp w [] []) Tryz.func6 rfl rfl (Nat.le_of_ble_eq_true rfl) rfl (Hp.nil _ _) ?_; refine jsr ?_; refine jz ?_; refine jnt ?_; refine jsr ?_; (iterate 2 refine jz ?_); refine jy (y_loadAgg_old (us := [.string ch, .string cl, .int .u64 nx, .slice ad n c]) rfl rfl h (by simp)) ?_; refine jl_m rfl (by decide) rfl (m_alloc) (fun b3 => ?_); refine jst ?_; refine jnt ?_; refine jsr ?_; refine jz ?_; refine jnt ?_; refine jc_ret ?_; refine jq_ret1 rfl rfl ?_; exact fun w' hw => ⟨b3, rfl, hw.fresh⟩

theorem eq_rtk (m : Nat) (x y : Tk) (w : World) : (Op.equalIn (m + 2) 52 (.agg (Tk.c x).toArray) (.agg (Tk.c y).toArray)).run Tryz.prog w = .ok (decide (x = y)) w := by
  rw [run_equalIn_agg _ _ 52 _ _ (by kernel_rfl) (by kernel_rfl), show (Program.fieldsOf Tryz.prog 52).toList = [((fsOf (Tryz.prog.underlying 52)).getD 0 default), ((fsOf (Tryz.prog.underlying 52)).getD 1 default), ((fsOf (Tryz.prog.underlying 52)).getD 2 default), ((fsOf (Tryz.prog.underlying 52)).getD 3 default), ((fsOf (Tryz.prog.underlying 52)).getD 4 default), ((fsOf (Tryz.prog.underlying 52)).getD 5 default), ((fsOf (Tryz.prog.underlying 52)).getD 6 default), ((fsOf (Tryz.prog.underlying 52)).getD 7 default)] from by kernel_rfl]
  refine Eq.trans (eqF_cell (by kernel_rfl) (T := 9) (by kernel_rfl) (off := 0) (by kernel_rfl) rfl rfl (equalIn_str (m) _ _ w) (eqF_cell (by kernel_rfl) (T := 30) (by kernel_rfl) (off := 1) (by kernel_rfl) rfl rfl (equalIn_int (m) _ _ w) (eqF_cell (by kernel_rfl) (T := 30) (by kernel_rfl) (off := 2) (by kernel_rfl) rfl rfl (equalIn_int (m) _ _ w) (eqF_cell (by kernel_rfl) (T := 30) (by kernel_rfl) (off := 3) (by kernel_rfl) rfl rfl (equalIn_int (m) _ _ w) (eqF_cell (by kernel_rfl) (T := 30) (by kernel_rfl) (off := 4) (by kernel_rfl) rfl rfl (equalIn_int (m) _ _ w) (eqF_cell (by kernel_rfl) (T := 9) (by kernel_rfl) (off := 5) (by kernel_rfl) rfl rfl (equalIn_str (m) _ _ w) (eqF_cell (by kernel_rfl) (T := 30) (by kernel_rfl) (off := 6) (by kernel_rfl) rfl rfl (equalIn_int (m) _ _ w) (eqF_cell (by kernel_rfl) (T := 9) (by kernel_rfl) (off := 7) (by kernel_rfl) rfl rfl (equalIn_str (m) _ _ w) eqF_nil)))))))) ?_
  congr 1
  rw [Bool.eq_iff_iff]
  cases x; cases y
  simp
theorem eq_rwn (m : Nat) (x y : Wn) (w : World) : (Op.equalIn (m + 3) 76 (.agg (Wn.c x).toArray) (.agg (Wn.c y).toArray)).run Tryz.prog w = .ok (decide (x = y)) w := by
  rw [run_equalIn_agg _ _ 76 _ _ (by kernel_rfl) (by kernel_rfl), show (Program.fieldsOf Tryz.prog 76).toList = [((fsOf (Tryz.prog.underlying 76)).getD 0 default), ((fsOf (Tryz.prog.underlying 76)).getD 1 default), ((fsOf (Tryz.prog.underlying 76)).getD 2 default)] from by kernel_rfl]
  refine Eq.trans (eqF_agg (by kernel_rfl) (T := 52) (by kernel_rfl) (off := 0) (by kernel_rfl) (by repeat constructor) (by repeat constructor) (eq_rtk m x.t y.t w) (eqF_cell (by kernel_rfl) (T := 9) (by kernel_rfl) (off := 8) (by kernel_rfl) rfl rfl (equalIn_str (m + 1) _ _ w) (eqF_cell (by kernel_rfl) (T := 30) (by kernel_rfl) (off := 9) (by kernel_rfl) rfl rfl (equalIn_int (m + 1) _ _ w) eqF_nil))) ?_
  congr 1
  rw [Bool.eq_iff_iff]
  cases x; cases y
  simp
theorem lplay_any (b r : Nat) (B : Bk) (p q : Option Addr × Nat) (x : Opx) (w : World) (hB : DI B) (hx : x.Fit) (h0 : Hp w (feetL [Bk.r (B).l p.1 p.2, Bk.h (B) b p.1 p.2, Bk.rr (B).l q.1 q.2, Bk.h (B) r q.1 q.2]) [Bk.r (B).l p.1 p.2, Bk.h (B) b p.1 p.2, Bk.rr (B).l q.1 q.2, Bk.h (B) r q.1 q.2] w) :
  Calls Tryz.prog 9 #[.pointer (some ⟨b, 0, none⟩), .pointer (some ⟨r, 0, none⟩), .agg (Opx.c x).toArray] w fun e w' => ∃ pq : (Option Addr × Nat) × (Option Addr × Nat), e = .returned (.bool true) ∧ Hp w (feetL [Bk.r (B).l p.1 p.2, Bk.h (B) b p.1 p.2, Bk.rr (B).l q.1 q.2, Bk.h (B) r q.1 q.2]) [Bk.r (plB B x).l pq.1.1 pq.1.2, Bk.h (plB B x) b pq.1.1 pq.1.2, Bk.rr (plB B x).l pq.2.1 pq.2.2, Bk.h (plB B x) r pq.2.1 pq.2.2] w' := by
 refine calls_of (n := 127) (E := [(0, .pointer (some ⟨b, 0, none⟩)), (1, .pointer (some ⟨r, 0, none⟩)), (2, .agg (Opx.c x).toArray)]) (W := Hp w (feetL [Bk.r (B).l p.1 p.2, Bk.h (B) b p.1 p.2, Bk.rr (B).l q.1 q.2, Bk.h (B) r q.1 q.2]) [Bk.r (B).l p.1 p.2, Bk.h (B) b p.1 p.2, Bk.rr (B).l q.1 q.2, Bk.h (B) r q.1 q.2]) Tryz.func9 rfl rfl (Nat.le_of_ble_eq_true rfl) rfl h0 ?_; refine jsr ?_; refine jl_m rfl (by decide) rfl (m_box rfl rfl) (fun b5 => ?_); refine jz ?_; refine jnt ?_; refine jsr ?_; (iterate 2 refine jz ?_); refine jpc (goes_func rfl) (fun w1 hw1 => lcut_any x.o w1) ?_; refine jl_m rfl (by decide) rfl (m_alloc) (fun b7 => ?_); refine jst ?_; refine jnt ?_; refine jc_seq ?_; refine jsr ?_; (iterate 2 refine jz ?_); refine jnt ?_; refine jc_block ?_; refine jsr ?_; refine jy (y_eql rfl rfl) ?_; refine jl_prop (fun h27 => ?_) (fun h27 => ?_)
 ·first | (exfalso; omega) | (
   refine jz ?_; refine jnt ?_; refine jc_true rfl ?_; refine jsr ?_; (iterate 11 refine jz ?_); refine jl_bcall (B := B) (B' := (makeB B x.o.face x.o.wins x.o.many (cutS x.o.salt 40) x.raw)) (b := b) (ad := p.1) (c := p.2) (v := .tuple #[.agg (Of.c (makeO B x.o.face x.o.wins x.o.many (cutS x.o.salt 40) x.raw)).toArray, .int .i64 (makeE B x.o.face x.o.wins x.o.many (cutS x.o.salt 40) x.raw)]) rfl (by decide) rfl (goes_func rfl) (fun w1 hw1 => bk_make hw1 (show BkIn _ B b p.1 p.2 from ⟨(by first | exact mem0 | exact mem1 | exact mem2 | exact mem3 | exact mem4 | exact mem5 | exact mem6 | exact mem7 | exact mem8 | exact mem9 | exact mem10 | exact mem11 | exact mem12), (by first | exact mem0 | exact mem1 | exact mem2 | exact mem3 | exact mem4 | exact mem5 | exact mem6 | exact mem7 | exact mem8 | exact mem9 | exact mem10 | exact mem11 | exact mem12), hB.len⟩) hB.fit x.o.face x.o.wins x.o.many (cutS x.o.salt 40) x.raw hx.o.face hx.o.wins hx.o.many hx.raw (by have := cutS_size x.o.salt 40; omega)) (fun _ => (by first | exact rep0 | exact rep1 | exact rep2 | exact rep3 | exact rep4 | exact repx5 | exact rep6 | exact rep7 | exact rep8 | exact rep9 | exact rep10 | exact rep11 | exact rep12)) (fun _ => (by first | exact rep0 | exact rep1 | exact rep2 | exact rep3 | exact rep4 | exact repx5 | exact rep6 | exact rep7 | exact rep8 | exact rep9 | exact rep10 | exact rep11 | exact rep12)) (fun pb => ?_); (iterate 3 refine jz ?_); refine jl_m rfl (by decide) rfl (m_alloc) (fun b8 => ?_); refine jst ?_; refine jz ?_; refine jnt ?_; refine jsr ?_; (iterate 11 refine jz ?_); refine jl_tcall (ι := Option Addr × Nat) (As := [Bk.rr B.l q.1 q.2, Bk.h B r q.1 q.2]) (Bs := fun pr => [Bk.rr (makeB B x.o.face x.o.wins x.o.many (cutS x.o.salt 40) x.raw).l pr.1 pr.2, Bk.h (makeB B x.o.face x.o.wins x.o.many (cutS x.o.salt 40) x.raw) r pr.1 pr.2]) (v := fun _ => .tuple #[.agg (Of.c (makeO B x.o.face x.o.wins x.o.many (cutS x.o.salt 40) x.raw)).toArray, .int .i64 (makeE B x.o.face x.o.wins x.o.many (cutS x.o.salt 40) x.raw)]) (.cons (by first | exact del0 | exact del1 | exact del2 | exact del3 | exact del4 | exact del5 | exact del6 | exact del7 | exact del8 | exact del9 | exact del10 | exact del11 | exact del12) (.cons (by first | exact del0 | exact del1 | exact del2 | exact del3 | exact del4 | exact del5 | exact del6 | exact del7 | exact del8 | exact del9 | exact del10 | exact del11 | exact del12) .nil)) rfl (by decide) rfl (goes_func rfl) (fun w1 hw1 => rmake16_any r B.chan B.cl B.next q.1 B.l q.2 w1 hB.len (hw1.at (As := [Bk.rr B.l q.1 q.2, Bk.h B r q.1 q.2]) (.cons (by first | exact del0 | exact del1 | exact del2 | exact del3 | exact del4 | exact del5 | exact del6 | exact del7 | exact del8 | exact del9 | exact del10 | exact del11 | exact del12) (.cons (by first | exact del0 | exact del1 | exact del2 | exact del3 | exact del4 | exact del5 | exact del6 | exact del7 | exact del8 | exact del9 | exact del10 | exact del11 | exact del12) .nil))) x.o.face x.o.wins x.o.many (cutS x.o.salt 40) x.raw hx.o.face hx.o.wins hx.o.many hx.raw (by have := cutS_size x.o.salt 40; omega) hB.face hB.fit.next) (fun qb => ?_)
   (iterate 3 refine jz ?_); refine jl_m rfl (by decide) rfl (m_alloc) (fun b10 => ?_); refine jst ?_; refine jz ?_; refine jnt ?_; refine jc_seq ?_; refine jc_draw (by kernel_rfl) (fun _ h => h.drew) ?_; refine juz ?_; refine ju_call rfl (by decide) rfl (goes_func rfl) (fun w1 hw1 => pcall hw1 (lref_any (makeO B x.o.face x.o.wins x.o.many (cutS x.o.salt 40) x.raw) w1)) ?_; refine juz ?_; refine juy (y_eql_agg rfl rfl (by kernel_rfl) (fun w => eq_rof 9998 _ _ w)) ?_; refine ju_as (u := .bool true) (congrArg Value.bool (decide_eq_true rfl)) ?_; (iterate 3 refine juz ?_); refine juy (y_eql rfl rfl) ?_; refine ju_as (u := .bool true) (congrArg Value.bool (decide_eq_true rfl)) ?_; refine juy (y_pick_true rfl rfl) ?_; refine juz ?_; refine ju_nil ?_; refine jq_then ?_; refine jc_ret ?_; refine jq_block_ret ?_; refine jq_then_ret ?_; refine jq_ret1 rfl rfl ?_; exact fun w' hw => ⟨(pb, qb), rfl, (hw.part (F := [Bk.r (makeB B x.o.face x.o.wins x.o.many (cutS x.o.salt 40) x.raw).l pb.1 pb.2, Bk.h (makeB B x.o.face x.o.wins x.o.many (cutS x.o.salt 40) x.raw) b pb.1 pb.2, Bk.rr (makeB B x.o.face x.o.wins x.o.many (cutS x.o.salt 40) x.raw).l qb.1 qb.2, Bk.h (makeB B x.o.face x.o.wins x.o.many (cutS x.o.salt 40) x.raw) r qb.1 qb.2]) (.cons (by first | exact del0 | exact del1 | exact del2 | exact del3 | exact del4 | exact del5 | exact del6 | exact del7 | exact del8 | exact del9 | exact del10 | exact del11 | exact del12) (.cons (by first | exact del0 | exact del1 | exact del2 | exact del3 | exact del4 | exact del5 | exact del6 | exact del7 | exact del8 | exact del9 | exact del10 | exact del11 | exact del12) (.cons (by first | exact del0 | exact del1 | exact del2 | exact del3 | exact del4 | exact del5 | exact del6 | exact del7 | exact del8 | exact del9 | exact del10 | exact del11 | exact del12) (.cons (by first | exact del0 | exact del1 | exact del2 | exact del3 | exact del4 | exact del5 | exact del6 | exact del7 | exact del8 | exact del9 | exact del10 | exact del11 | exact del12) .nil))))).cast (by rw [show plB B x = makeB B x.o.face x.o.wins x.o.many (cutS x.o.salt 40) x.raw by unfold plB; rw [if_pos (by omega)]])⟩
   )
 ·first | (exfalso; omega) | (
   refine jz ?_; refine jnt ?_; refine jc_false rfl ?_; refine jsr ?_; refine jy (y_eql rfl rfl) ?_; refine jl_prop (fun h68 => ?_) (fun h68 => ?_)
   ·first | (exfalso; omega) | (
     refine jz ?_; refine jnt ?_; refine jc_true rfl ?_; refine jsr ?_; (iterate 2 refine jz ?_); refine jpc (goes_func rfl) (fun w1 hw1 => lcuttk_any x.t w1) ?_; refine jl_m rfl (by decide) rfl (m_alloc) (fun b12 => ?_); refine jst ?_; refine jnt ?_; refine jsr ?_; (iterate 2 refine jz ?_); refine jl_bcall (B := B) (B' := (takeB B (ct16 x.t))) (b := b) (ad := p.1) (c := p.2) (v := .tuple #[.int .u64 (takeV B (ct16 x.t)), .agg (Wn.c (takeW B (ct16 x.t))).toArray, .bool (takeI B (ct16 x.t)), .int .i64 (takeE B (ct16 x.t))]) rfl (by decide) rfl (goes_func rfl) (fun w1 hw1 => bk_take hw1 (show BkIn _ B b p.1 p.2 from ⟨(by first | exact mem0 | exact mem1 | exact mem2 | exact mem3 | exact mem4 | exact mem5 | exact mem6 | exact mem7 | exact mem8 | exact mem9 | exact mem10 | exact mem11 | exact mem12), (by first | exact mem0 | exact mem1 | exact mem2 | exact mem3 | exact mem4 | exact mem5 | exact mem6 | exact mem7 | exact mem8 | exact mem9 | exact mem10 | exact mem11 | exact mem12), hB.len⟩) hB.fit (ct16 x.t) (ct16_fit hx.t) (Nat.le_trans (cutS_size _ _) (by decide)) (Nat.le_trans (cutS_size _ _) (by decide)) (Nat.le_trans (cutS_size _ _) (by decide))) (fun _ => (by first | exact rep0 | exact rep1 | exact rep2 | exact rep3 | exact rep4 | exact repx5 | exact rep6 | exact rep7 | exact rep8 | exact rep9 | exact rep10 | exact rep11 | exact rep12)) (fun _ => (by first | exact rep0 | exact rep1 | exact rep2 | exact rep3 | exact rep4 | exact repx5 | exact rep6 | exact rep7 | exact rep8 | exact rep9 | exact rep10 | exact rep11 | exact rep12)) (fun pb => ?_); (iterate 5 refine jz ?_); refine jl_m rfl (by decide) rfl (m_alloc) (fun b14 => ?_); refine jz ?_; refine jst ?_; (iterate 2 refine jz ?_); refine jnt ?_; refine jsr ?_; (iterate 2 refine jz ?_); refine jpc (goes_func rfl) (fun w1 hw1 => reftk_any (ct16 x.t) w1) ?_; refine jl_tcall (ι := Option Addr × Nat) (As := [Bk.rr B.l q.1 q.2, Bk.h B r q.1 q.2]) (Bs := fun pr => [Bk.rr (takeB B (ct16 x.t)).l pr.1 pr.2, Bk.h (takeB B (ct16 x.t)) r pr.1 pr.2]) (v := fun _ => .tuple #[.int .u64 (takeV B (ct16 x.t)), .agg (Wn.c (takeW B (ct16 x.t))).toArray, .bool (takeI B (ct16 x.t)), .int .i64 (takeE B (ct16 x.t))]) (.cons (by first | exact del0 | exact del1 | exact del2 | exact del3 | exact del4 | exact del5 | exact del6 | exact del7 | exact del8 | exact del9 | exact del10 | exact del11 | exact del12) (.cons (by first | exact del0 | exact del1 | exact del2 | exact del3 | exact del4 | exact del5 | exact del6 | exact del7 | exact del8 | exact del9 | exact del10 | exact del11 | exact del12) .nil)) rfl (by decide) rfl (goes_func rfl) (fun w1 hw1 => rtake16_any r B.chan B.cl B.next q.1 B.l q.2 w1 hB.len (hw1.at (As := [Bk.rr B.l q.1 q.2, Bk.h B r q.1 q.2]) (.cons (by first | exact del0 | exact del1 | exact del2 | exact del3 | exact del4 | exact del5 | exact del6 | exact del7 | exact del8 | exact del9 | exact del10 | exact del11 | exact del12) (.cons (by first | exact del0 | exact del1 | exact del2 | exact del3 | exact del4 | exact del5 | exact del6 | exact del7 | exact del8 | exact del9 | exact del10 | exact del11 | exact del12) .nil))) (ct16 x.t) (ct16_fit hx.t) (Nat.le_trans (cutS_size _ _) (by decide)) (Nat.le_trans (cutS_size _ _) (by decide)) (Nat.le_trans (cutS_size _ _) (by decide)) hB.fit.l) (fun qb => ?_)
     (iterate 5 refine jz ?_); refine jl_m rfl (by decide) rfl (m_alloc) (fun b18 => ?_); refine jz ?_; refine jst ?_; (iterate 2 refine jz ?_); refine jnt ?_; refine jc_seq ?_; refine jc_draw (by kernel_rfl) (fun _ h => h.drew) ?_; (iterate 2 refine juz ?_); refine juy (y_eql rfl rfl) ?_; refine ju_as (u := .bool true) (congrArg Value.bool (decide_eq_true rfl)) ?_; (iterate 2 refine juz ?_); refine ju_call rfl (by decide) rfl (goes_func rfl) (fun w1 hw1 => pcall hw1 (refwn_any (takeW B (ct16 x.t)) w1)) ?_; refine juz ?_; refine juy (y_eql_agg rfl rfl (by kernel_rfl) (fun w => eq_rwn 9997 _ _ w)) ?_; refine ju_as (u := .bool true) (congrArg Value.bool (decide_eq_true rfl)) ?_; refine juy (y_pick_true rfl rfl) ?_; (iterate 3 refine juz ?_); refine juy (y_eql_bool rfl rfl) ?_; refine ju_as (u := .bool true) (congrArg Value.bool (by simp)) ?_; refine juy (y_pick_true rfl rfl) ?_; (iterate 3 refine juz ?_); refine juy (y_eql rfl rfl) ?_; refine ju_as (u := .bool true) (congrArg Value.bool (decide_eq_true rfl)) ?_; refine juy (y_pick_true rfl rfl) ?_; refine juz ?_; refine ju_nil ?_; refine jq_then ?_; refine jc_ret ?_; refine jq_block_ret ?_; refine jq_then_ret ?_; refine jq_ret1 rfl rfl ?_; exact fun w' hw => ⟨(pb, qb), rfl, (hw.part (F := [Bk.r (takeB B (ct16 x.t)).l pb.1 pb.2, Bk.h (takeB B (ct16 x.t)) b pb.1 pb.2, Bk.rr (takeB B (ct16 x.t)).l qb.1 qb.2, Bk.h (takeB B (ct16 x.t)) r qb.1 qb.2]) (.cons (by first | exact del0 | exact del1 | exact del2 | exact del3 | exact del4 | exact del5 | exact del6 | exact del7 | exact del8 | exact del9 | exact del10 | exact del11 | exact del12) (.cons (by first | exact del0 | exact del1 | exact del2 | exact del3 | exact del4 | exact del5 | exact del6 | exact del7 | exact del8 | exact del9 | exact del10 | exact del11 | exact del12) (.cons (by first | exact del0 | exact del1 | exact del2 | exact del3 | exact del4 | exact del5 | exact del6 | exact del7 | exact del8 | exact del9 | exact del10 | exact del11 | exact del12) (.cons (by first | exact del0 | exact del1 | exact del2 | exact del3 | exact del4 | exact del5 | exact del6 | exact del7 | exact del8 | exact del9 | exact del10 | exact del11 | exact del12) .nil))))).cast (by rw [show plB B x = takeB B (ct16 x.t) by unfold plB; rw [if_neg (by omega), if_pos (by omega)]])⟩
     )
   ·first | (exfalso; omega) | (
     refine jz ?_; refine jnt ?_; refine jc_false rfl ?_; refine jsr ?_; refine jy (y_eql rfl rfl) ?_; refine jl_prop (fun h109 => ?_) (fun h109 => ?_)
     ·first | (exfalso; omega) | (
       refine jz ?_; refine jnt ?_; refine jc_true rfl ?_; refine jc_seq ?_; refine jc_schedC (Hp w (feetL [Bk.r (B).l p.1 p.2, Bk.h (B) b p.1 p.2, Bk.rr (B).l q.1 q.2, Bk.h (B) r q.1 q.2]) [.cells b7 (Of.c (ctOf x.o))]) 9 [(0, true), (1, true), (2, true), (4, true), (5, true), (6, true), (3, false), (7, false), (8, true)] rfl (by kernel_rfl) (fun _ _ _ _ h => h) (fun _ h => (h.part (.cons (by first | exact del0 | exact del1 | exact del2 | exact del3 | exact del4 | exact del5 | exact del6 | exact del7 | exact del8 | exact del9 | exact del10 | exact del11 | exact del12) .nil)).drew) (fun _ h => h.drew) ?_
       simp only [pickO, nthO, List.drop_succ_cons, List.drop_zero]
       (iterate 6 refine jkz ?_); refine js_bcall (B := B) (B' := (goneB B x.o.serial)) (b := b) (ad := p.1) (c := p.2) (v := .int .i64 (goneE B x.o.serial)) rfl (by decide) rfl (goes_func rfl) (fun w1 hw1 => bk_gone hw1 (show BkIn _ B b p.1 p.2 from ⟨(by first | exact mem0 | exact mem1 | exact mem2 | exact mem3 | exact mem4 | exact mem5 | exact mem6 | exact mem7 | exact mem8 | exact mem9 | exact mem10 | exact mem11 | exact mem12), (by first | exact mem0 | exact mem1 | exact mem2 | exact mem3 | exact mem4 | exact mem5 | exact mem6 | exact mem7 | exact mem8 | exact mem9 | exact mem10 | exact mem11 | exact mem12), hB.len⟩) x.o.serial) (fun _ => (by first | exact rep0 | exact rep1 | exact rep2 | exact rep3 | exact rep4 | exact repx5 | exact rep6 | exact rep7 | exact rep8 | exact rep9 | exact rep10 | exact rep11 | exact rep12)) (fun _ => (by first | exact rep0 | exact rep1 | exact rep2 | exact rep3 | exact rep4 | exact repx5 | exact rep6 | exact rep7 | exact rep8 | exact rep9 | exact rep10 | exact rep11 | exact rep12)) (by intros; rename_i h; exact h.part (.cons (by first | exact del0 | exact del1 | exact del2 | exact del3 | exact del4 | exact del5 | exact del6 | exact del7 | exact del8 | exact del9 | exact del10 | exact del11 | exact del12) .nil)) (fun pb => ?_); refine js_tcall (ι := Option Addr × Nat) (As := [Bk.rr B.l q.1 q.2, Bk.h B r q.1 q.2]) (Bs := fun pr => [Bk.rr (goneB B x.o.serial).l pr.1 pr.2, Bk.h (goneB B x.o.serial) r pr.1 pr.2]) (v := fun _ => .int .i64 (goneE B x.o.serial)) (.cons (by first | exact del0 | exact del1 | exact del2 | exact del3 | exact del4 | exact del5 | exact del6 | exact del7 | exact del8 | exact del9 | exact del10 | exact del11 | exact del12) (.cons (by first | exact del0 | exact del1 | exact del2 | exact del3 | exact del4 | exact del5 | exact del6 | exact del7 | exact del8 | exact del9 | exact del10 | exact del11 | exact del12) .nil)) rfl (by decide) rfl (goes_func rfl) (fun w1 hw1 => rgone16_any r B.chan B.cl B.next q.1 B.l q.2 w1 hB.len (hw1.at (As := [Bk.rr B.l q.1 q.2, Bk.h B r q.1 q.2]) (.cons (by first | exact del0 | exact del1 | exact del2 | exact del3 | exact del4 | exact del5 | exact del6 | exact del7 | exact del8 | exact del9 | exact del10 | exact del11 | exact del12) (.cons (by first | exact del0 | exact del1 | exact del2 | exact del3 | exact del4 | exact del5 | exact del6 | exact del7 | exact del8 | exact del9 | exact del10 | exact del11 | exact del12) .nil))) x.o.serial) (by intros; rename_i h; exact h.part (.cons (by first | exact del0 | exact del1 | exact del2 | exact del3 | exact del4 | exact del5 | exact del6 | exact del7 | exact del8 | exact del9 | exact del10 | exact del11 | exact del12) .nil)) (fun qb => ?_)
       refine jky (y_eql rfl rfl) ?_; refine js_as (u := .bool true) (congrArg Value.bool (decide_eq_true rfl)) ?_; refine js_nil ?_; refine jz ?_; refine jnt ?_; refine jc_ret ?_; refine jq_block_ret ?_; refine jq_then_ret ?_; refine jq_ret1 rfl rfl ?_; exact fun w' hw => ⟨(pb, qb), rfl, (hw.part (F := [Bk.r (goneB B x.o.serial).l pb.1 pb.2, Bk.h (goneB B x.o.serial) b pb.1 pb.2, Bk.rr (goneB B x.o.serial).l qb.1 qb.2, Bk.h (goneB B x.o.serial) r qb.1 qb.2]) (.cons (by first | exact del0 | exact del1 | exact del2 | exact del3 | exact del4 | exact del5 | exact del6 | exact del7 | exact del8 | exact del9 | exact del10 | exact del11 | exact del12) (.cons (by first | exact del0 | exact del1 | exact del2 | exact del3 | exact del4 | exact del5 | exact del6 | exact del7 | exact del8 | exact del9 | exact del10 | exact del11 | exact del12) (.cons (by first | exact del0 | exact del1 | exact del2 | exact del3 | exact del4 | exact del5 | exact del6 | exact del7 | exact del8 | exact del9 | exact del10 | exact del11 | exact del12) (.cons (by first | exact del0 | exact del1 | exact del2 | exact del3 | exact del4 | exact del5 | exact del6 | exact del7 | exact del8 | exact del9 | exact del10 | exact del11 | exact del12) .nil))))).cast (by rw [show plB B x = goneB B x.o.serial by unfold plB; rw [if_neg (by omega), if_neg (by omega), if_pos (by omega)]])⟩
       )
     ·first | (exfalso; omega) | (
       refine jz ?_; refine jnt ?_; refine jc_false rfl ?_; refine jc_skip ?_; refine jq_block ?_; refine jq_then ?_; refine jc_seq ?_; refine jc_schedC (Hp w (feetL [Bk.r (B).l p.1 p.2, Bk.h (B) b p.1 p.2, Bk.rr (B).l q.1 q.2, Bk.h (B) r q.1 q.2]) [.cells b7 (Of.c (ctOf x.o))]) 8 [(0, true), (1, true), (3, true), (4, true), (2, false), (5, false), (6, false), (7, true)] rfl (by kernel_rfl) (fun _ _ _ _ h => h) (fun _ h => (h.part (.cons (by first | exact del0 | exact del1 | exact del2 | exact del3 | exact del4 | exact del5 | exact del6 | exact del7 | exact del8 | exact del9 | exact del10 | exact del11 | exact del12) .nil)).drew) (fun _ h => h.drew) ?_
       simp only [pickO, nthO, List.drop_succ_cons, List.drop_zero]
       (iterate 4 refine jkz ?_); refine js_bcall (B := B) (B' := (putB B (ctOf x.o))) (b := b) (ad := p.1) (c := p.2) (v := .int .i64 (putE B (ctOf x.o))) rfl (by decide) rfl (goes_func rfl) (fun w1 hw1 => bk_put hw1 (show BkIn _ B b p.1 p.2 from ⟨(by first | exact mem0 | exact mem1 | exact mem2 | exact mem3 | exact mem4 | exact mem5 | exact mem6 | exact mem7 | exact mem8 | exact mem9 | exact mem10 | exact mem11 | exact mem12), (by first | exact mem0 | exact mem1 | exact mem2 | exact mem3 | exact mem4 | exact mem5 | exact mem6 | exact mem7 | exact mem8 | exact mem9 | exact mem10 | exact mem11 | exact mem12), hB.len⟩) hB.fit (ctOf x.o) (ctOf_fit hx.o) (Nat.le_trans (cutS_size _ _) (by decide))) (fun _ => (by first | exact rep0 | exact rep1 | exact rep2 | exact rep3 | exact rep4 | exact repx5 | exact rep6 | exact rep7 | exact rep8 | exact rep9 | exact rep10 | exact rep11 | exact rep12)) (fun _ => (by first | exact rep0 | exact rep1 | exact rep2 | exact rep3 | exact rep4 | exact repx5 | exact rep6 | exact rep7 | exact rep8 | exact rep9 | exact rep10 | exact rep11 | exact rep12)) (by intros; rename_i h; exact h.part (.cons (by first | exact del0 | exact del1 | exact del2 | exact del3 | exact del4 | exact del5 | exact del6 | exact del7 | exact del8 | exact del9 | exact del10 | exact del11 | exact del12) .nil)) (fun pb => ?_); refine js_pcall (by intro _ h; exact h.part (.cons (by first | exact del0 | exact del1 | exact del2 | exact del3 | exact del4 | exact del5 | exact del6 | exact del7 | exact del8 | exact del9 | exact del10 | exact del11 | exact del12) .nil)) rfl (by decide) rfl (goes_func rfl) (fun w1 hw1 => pcall hw1 (lref_any (ctOf x.o) w1)) ?_; refine js_tcall (ι := Option Addr × Nat) (As := [Bk.rr B.l q.1 q.2, Bk.h B r q.1 q.2]) (Bs := fun pr => [Bk.rr (putB B (ctOf x.o)).l pr.1 pr.2, Bk.h (putB B (ctOf x.o)) r pr.1 pr.2]) (v := fun _ => .int .i64 (putE B (ctOf x.o))) (.cons (by first | exact del0 | exact del1 | exact del2 | exact del3 | exact del4 | exact del5 | exact del6 | exact del7 | exact del8 | exact del9 | exact del10 | exact del11 | exact del12) (.cons (by first | exact del0 | exact del1 | exact del2 | exact del3 | exact del4 | exact del5 | exact del6 | exact del7 | exact del8 | exact del9 | exact del10 | exact del11 | exact del12) .nil)) rfl (by decide) rfl (goes_func rfl) (fun w1 hw1 => rput16_any r B.chan B.cl B.next q.1 B.l q.2 w1 hB.len (hw1.at (As := [Bk.rr B.l q.1 q.2, Bk.h B r q.1 q.2]) (.cons (by first | exact del0 | exact del1 | exact del2 | exact del3 | exact del4 | exact del5 | exact del6 | exact del7 | exact del8 | exact del9 | exact del10 | exact del11 | exact del12) (.cons (by first | exact del0 | exact del1 | exact del2 | exact del3 | exact del4 | exact del5 | exact del6 | exact del7 | exact del8 | exact del9 | exact del10 | exact del11 | exact del12) .nil))) (ctOf x.o) (ctOf_fit hx.o) (Nat.le_trans (cutS_size _ _) (by decide)) hB.face hB.fit.next) (by intros; rename_i h; exact h.part (.cons (by first | exact del0 | exact del1 | exact del2 | exact del3 | exact del4 | exact del5 | exact del6 | exact del7 | exact del8 | exact del9 | exact del10 | exact del11 | exact del12) .nil)) (fun qb => ?_)
       refine jky (y_eql rfl rfl) ?_; refine js_as (u := .bool true) (congrArg Value.bool (decide_eq_true rfl)) ?_; refine js_nil ?_; refine jz ?_; refine jnt ?_; refine jc_ret ?_; refine jq_ret1 rfl rfl ?_; exact fun w' hw => ⟨(pb, qb), rfl, (hw.part (F := [Bk.r (putB B (ctOf x.o)).l pb.1 pb.2, Bk.h (putB B (ctOf x.o)) b pb.1 pb.2, Bk.rr (putB B (ctOf x.o)).l qb.1 qb.2, Bk.h (putB B (ctOf x.o)) r qb.1 qb.2]) (.cons (by first | exact del0 | exact del1 | exact del2 | exact del3 | exact del4 | exact del5 | exact del6 | exact del7 | exact del8 | exact del9 | exact del10 | exact del11 | exact del12) (.cons (by first | exact del0 | exact del1 | exact del2 | exact del3 | exact del4 | exact del5 | exact del6 | exact del7 | exact del8 | exact del9 | exact del10 | exact del11 | exact del12) (.cons (by first | exact del0 | exact del1 | exact del2 | exact del3 | exact del4 | exact del5 | exact del6 | exact del7 | exact del8 | exact del9 | exact del10 | exact del11 | exact del12) (.cons (by first | exact del0 | exact del1 | exact del2 | exact del3 | exact del4 | exact del5 | exact del6 | exact del7 | exact del8 | exact del9 | exact del10 | exact del11 | exact del12) .nil))))).cast (by rw [show plB B x = putB B (ctOf x.o) by unfold plB; rw [if_neg (by omega), if_neg (by omega), if_neg (by omega)]])⟩
       )
     )
   )

end Go.Proofs.YtghomncegjamfaaGreat