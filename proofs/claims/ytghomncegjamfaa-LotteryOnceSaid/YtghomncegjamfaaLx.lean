/- The books of package lottery among the own blocks: what is called of one. Written by program (walk.py) out of a table of contracts and invariants. -/
import Derived.Test.YtghomncegjamfaaLt
namespace Go.Proofs.Ytghomncegjamfaa
open Go.RowKit
set_option maxRecDepth 100000
set_option maxHeartbeats 2000000
set_option linter.unusedVariables false
set_option linter.unusedSimpArgs false
attribute [local irreducible] Yields Makes Writes
theorem take_flat : ∀ (l : List Of) (k : Nat), (l.flatMap Of.c).take (k * 9) = (l.take k).flatMap Of.c
  | [], k => by simp
  | x :: l, 0 => by simp
  | x :: l, k + 1 => by
    rw [List.flatMap_cons, List.take_succ_cons, List.flatMap_cons, ← take_flat l k, show (k + 1) * 9 = (Of.c x).length + k * 9 by show _ = 9 + k * 9; omega, List.take_length_add_append]
theorem drop_flat : ∀ (l : List Of) (k : Nat), (l.flatMap Of.c).drop (k * 9) = (l.drop k).flatMap Of.c
  | [], k => by simp
  | x :: l, 0 => by simp
  | x :: l, k + 1 => by
    rw [List.flatMap_cons, List.drop_succ_cons, ← drop_flat l k, show (k + 1) * 9 = (Of.c x).length + k * 9 by show _ = 9 + k * 9; omega, List.drop_length_add_append]
theorem erase_flat (l : List Of) (i : Nat) : (l.flatMap Of.c).take (i * 9) ++ (l.drop (i + 1)).flatMap Of.c = (l.eraseIdx i).flatMap Of.c := by
  rw [take_flat, List.eraseIdx_eq_take_drop_succ, List.flatMap_append]
theorem sub_src (b c k : Nat) : ∃ src, subAd (some ⟨b, 0, none⟩) c k 9 = some src ∧ (k ≠ c → src = ⟨b, k * 9, none⟩) := by
  unfold subAd
  by_cases h : c = k
  · exact ⟨_, if_pos h, fun h2 => absurd h.symm h2⟩
  · exact ⟨_, if_neg h, fun _ => by show Addr.add ⟨b, 0, none⟩ _ = _; rw [addr_add, Nat.zero_add]⟩
theorem row_drop {w : World} {b c k j e : Nat} {l : List Of} {u : Value} (h : HA.ok w (.row (some ⟨b, 0, none⟩) l.length c e 9 (l.flatMap Of.c))) (hj : ((l.drop k).flatMap Of.c)[j]? = some u) : w.cell? ⟨b, k * 9 + j, none⟩ = some u := by
  rw [← drop_flat, List.getElem?_drop] at hj
  exact row_cell h hj
/-- A book's block. -/
abbrev Bk.h (B : Bk) (b : Nat) (ad : Option Addr) (c : Nat) : HA := .cells b [.string B.chan, .string B.cl, .int .u64 B.next, .slice ad B.l.length c]
/-- A book's row. -/
abbrev Bk.r (l : List Of) (ad : Option Addr) (c : Nat) : HA := .row ad l.length c 33 9 (l.flatMap Of.c)
/-- A call leaves the row, or makes a new one. -/
def RowT (w w' : World) (p p' : Option Addr × Nat) (l l' : List Of) : Prop := (p' = p ∧ l' = l) ∨ (HA.ok w' (Bk.r l' p'.1 p'.2) ∧ ∀ k, (Bk.r l' p'.1 p'.2).foot = some k → w.heap.size ≤ k)
theorem RowT.new {w w' : World} {b : Nat} {H : List HA} {p : Option Addr × Nat} {l l' : List Of} {ad : Option Addr} {n c : Nat} {A : HA} (h : Hp w [b] (.row ad n c 33 9 (l'.flatMap Of.c) :: H) w') (hn : n = l'.length) (hA : A ∈ H) (hf : A.foot = some b) : RowT w w' p (ad, c) l l' := by
  subst hn
  refine .inr ⟨h.get mem0, fun k hk => ?_⟩
  rcases h.own _ mem0 k hk with h2 | h2
  · exact h2
  · rw [List.mem_singleton.1 h2] at hk
    exact absurd hf ((List.pairwise_cons.1 h.apart).1 A hA b hk)
theorem Rep.perms {A A' : HA} {H H' : List HA} (r : Rep A A' H H') : ∃ R, H.Perm (A :: R) ∧ H'.Perm (A' :: R) := by
  induction r with
  | @head H => exact ⟨H, .refl _, .refl _⟩
  | @tail B H H' r ih =>
    obtain ⟨R, h1, h2⟩ := ih
    exact ⟨B :: R, (List.Perm.cons _ h1).trans (List.Perm.swap _ _ _), (List.Perm.cons _ h2).trans (List.Perm.swap _ _ _)⟩
/-- A book that was turned by a call, among the own blocks. -/
theorem book_hp {w0 w w' : World} {S : List Nat} {H H1 H' : List HA} {B B' : Bk} {b c : Nat} {ad : Option Addr} {pr : Option Addr × Nat} (hw : Hp w0 S H w) (r : Rep (B.h b ad c) (B'.h b pr.1 pr.2) H H1) (r2 : Rep (Bk.r B.l ad c) (Bk.r B'.l pr.1 pr.2) H1 H')
    (hu : Upd w w' (B.h b ad c) (B'.h b pr.1 pr.2)) (hr : RowT w w' (ad, c) pr B.l B'.l) : Hp w0 S H' w' := by
  have h1 : Hp w0 S H1 w' := hu.hp hw r rfl
  obtain ⟨R, p1, p2⟩ := r2.perms
  rcases hr with ⟨e1, e2⟩ | ⟨hok, hn⟩
  · refine h1.perm (p1.trans ?_)
    rw [show Bk.r B.l ad c = Bk.r B'.l pr.1 pr.2 by rw [e1, e2]]
    exact p2.symm
  · have h2 := (h1.perm p1).pop
    refine (h2.cons (A := Bk.r B'.l pr.1 pr.2) hok (fun k hk => .inl (Nat.le_trans hw.ch.size (hn k hk))) fun D hD k hk hd => ?_).perm p2.symm
    have hDH : D ∈ H1 := p1.mem_iff.2 (.tail _ hD)
    have h3 := hn k hk
    rcases r.old hDH with e | hDH
    · subst e
      have := HA.lt (hw.ok _ r.mem) (k := k) hd
      omega
    · have := HA.lt (hw.ok _ hDH) hd
      omega
/-- What a book reads of its row, which is own too. -/
theorem row_elO {w0 w : World} {S : List Nat} {H : List HA} {B : Bk} {b c : Nat} {ad : Option Addr} (h : Hp w0 S H w) (h1 : B.h b ad c ∈ H) (h2 : Bk.r B.l ad c ∈ H) : ElO w [b] ad 9 (B.l.map Of.c) := fun i cs hi => by
  obtain ⟨k, o, ea, h3⟩ := ElAt.of_row (c := Of.c) (fun _ => rfl) rfl (h.get h2) i cs hi
  subst ea
  refine ⟨k, o, rfl, fun hm => ?_, h3⟩
  have e : k = b := List.mem_singleton.1 hm
  subst e
  have h4 := List.pairwise_iff_getElem.1 h.apart
  obtain ⟨x, hx, ex⟩ := List.mem_iff_getElem.1 h1
  obtain ⟨y, hy, ey⟩ := List.mem_iff_getElem.1 h2
  rcases Nat.lt_trichotomy x y with q | q | q
  · exact h4 x y hx hy q k (by rw [ex]; rfl) (by rw [ey]; rfl)
  · subst q; rw [ex] at ey; cases ey
  · exact h4 y x hy hx q k (by rw [ey]; rfl) (by rw [ex]; rfl)
section
variable {P : Program} {n : Nat} {E : Env} {w0 : World} {S : List Nat} {H : List HA} {Q : Exit → Act → World → Prop} {ops : Array Oper} {rest : List Oper} {o : Oper} {d f : Nat} {args : Array Value} {v : Value}
/-- A call that turns a book. -/
theorem jl_bcall {H1 H' : Option Addr × Nat → List HA} {B B' : Bk} {b c : Nat} {ad : Option Addr} (hd : o.dst = some d) (hn : d < n) (hg : want ops E o = some true) (hf : Goes P n E o f args)
    (hc : ∀ w, Hp w0 S H w → Calls P f args w fun e w' => ∃ pr : Option Addr × Nat, e = .returned v ∧ Upd w w' (B.h b ad c) (B'.h b pr.1 pr.2) ∧ RowT w w' (ad, c) pr B.l B'.l)
    (r : ∀ pr : Option Addr × Nat, Rep (B.h b ad c) (B'.h b pr.1 pr.2) H (H1 pr)) (r2 : ∀ pr : Option Addr × Nat, Rep (Bk.r B.l ad c) (Bk.r B'.l pr.1 pr.2) (H1 pr) (H' pr)) (k : ∀ pr, JL P n Q (Hp w0 S (H' pr)) ops rest ((d, v) :: E)) : JL P n Q (Hp w0 S H) ops (o :: rest) E :=
  jl_call (v := fun _ => v) (W' := fun pr => Hp w0 S (H' pr)) hd hn hg hf (fun w hw => (hc w hw).mono fun _ _ ⟨pr, he, h1, h2⟩ => ⟨pr, he, book_hp hw (r pr) (r2 pr) h1 h2⟩) k
end

theorem delL_any (b : Nat) (l : List Of) (i : Nat) (p : Int) (c : Nat) (w : World) (hp : p = i) (hi : i < l.length) (hl : l.length ≤ 1000) (hA : HA.ok w (.row (some ⟨b, 0, none⟩) (l.length) c 33 9 ((l).flatMap Of.c))) :
  Calls Try.prog 48 #[.slice (some ⟨b, 0, none⟩) l.length c, .int .i64 p, .int .i64 (p + 1)] w fun e w' => e = .returned (.slice (some ⟨b, 0, none⟩) (l.length - 1) c) ∧ Upd w w' (.row (some ⟨b, 0, none⟩) (l.length) c 33 9 ((l).flatMap Of.c)) (.row (some ⟨b, 0, none⟩) (l.length - 1) c 33 9 ((l.eraseIdx i).flatMap Of.c)) := by
 have hcap := row_cap hA
 obtain ⟨src, hs1, hs2⟩ := sub_src b c (i + 1)
 obtain ⟨sr2, ht1, ht2⟩ := sub_src b c (l.length - 1)
 have htt := ht2 (by omega)
 subst htt
 refine calls_of (n := 33) (E := [(0, .slice (some ⟨b, 0, none⟩) l.length c), (1, .int .i64 p), (2, .int .i64 (p + 1))]) (W := Hp w [b] [.row (some ⟨b, 0, none⟩) (l.length) c 33 9 ((l).flatMap Of.c)]) Try.func48 rfl rfl (Nat.le_of_ble_eq_true rfl) rfl (Hp.start rfl hA) ?_
 refine jsr ?_
 refine jz ?_
 refine jnt ?_
 refine jsr ?_
 refine jz ?_
 refine jz ?_
 refine jz ?_
 refine jz ?_
 refine jy (y_len_slice rfl) ?_
 refine jy (y_sl_full rfl rfl rfl rfl (by omega) (by omega) (by omega) (by omega)) ?_
 refine jnt ?_
 refine jc_seq ?_
 refine jsr ?_
 refine jz ?_
 refine jz ?_
 refine jy (y_eql rfl rfl) ?_
 refine jl_prop (fun h16 => ?_) (fun h16 => ?_)
 ·exfalso; omega
 ·first
  | (exfalso; omega)
  | (
   refine jnt ?_
   refine jc_false rfl ?_
   refine jc_skip ?_
   refine jq_then ?_
   refine jsr ?_
   refine jz ?_
   refine jy (y_len_slice rfl) ?_
   refine jz ?_
   refine jnt ?_
   refine jc_seq ?_
   refine jc_tail 6 (by kernel_rfl) (fun _ h => h.drew) ?_
   simp only [List.take_succ_cons, List.take_zero, List.drop_succ_cons, List.drop_zero]
   refine jtz ?_
   refine jtz ?_
   refine jty (y_sl_hi rfl rfl (by omega) (by omega)) ?_
   refine jt_as (u := .slice (some ⟨b, 0, none⟩) i c) (by rw [hp]; rfl) ?_
   refine jtz ?_
   refine jtz ?_
   refine jty (y_sl_lo rfl rfl (by omega) (by omega)) ?_
   refine jt_as (u := .slice (some src) (l.length - (i + 1)) (c - (i + 1))) (by rw [← hs1, hp]; rfl) ?_
   refine jt_nil ?_
   refine jl_m rfl (by decide) rfl (m_delete (i := i) (news := (l.drop (i + 1)).flatMap Of.c) rfl rfl del0 (by omega) (by rw [flat_len (n := 9) (c := Of.c) (fun _ => rfl), List.length_drop]) (fun w2 hw2 j u hj => by
     have hlt : i + 1 ≠ c := fun e => by rw [List.drop_eq_nil_of_le (by omega)] at hj; cases hj
     rw [hs2 hlt, addr_add]
     exact row_drop (hw2.get mem0) hj) (flat_one (c := Of.c) (fun _ => rfl) _) (by omega)) (fun _ => ?_)
   refine jz ?_
   refine jnt ?_
   refine jsr ?_
   refine jz ?_
   refine jz ?_
   refine jy (y_len_slice rfl) ?_
   refine jz ?_
   refine jy (y_sl_lh rfl rfl rfl (by omega) (by omega) (by omega)) ?_
   refine jl_as (u := .slice (some ⟨b, (l.length - 1) * 9, none⟩) 1 (c - (l.length - 1))) (by rw [← ht1]; simp only [Int.toNat_natCast]; congr 1 <;> first | (congr 1; omega) | omega) ?_
   refine jl_v rfl rfl (w_clear rfl (by omega) rep0 (by decide) (by omega) rfl) (fun _ => ?_)
   refine jnt ?_
   refine jsr ?_
   refine jz ?_
   refine jz ?_
   refine jnt ?_
   refine jc_ret ?_
   refine jq_ret1 rfl rfl ?_
   exact fun w' hw => ⟨by rw [show i + (l.length - (i + 1)) = l.length - 1 by omega], (hw.cast (H' := [.row (some ⟨b, 0, none⟩) (l.length - 1) c 33 9 ((l.eraseIdx i).flatMap Of.c)]) (by rw [erase_flat, show i + (l.length - (i + 1)) = l.length - 1 by omega])).updd rfl⟩
   )

end Go.Proofs.Ytghomncegjamfaa

namespace Go.Proofs.Ytghomncegjamfaa
open Go.RowKit
set_option maxRecDepth 100000
set_option maxHeartbeats 2000000
set_option linter.unusedVariables false
set_option linter.unusedSimpArgs false
attribute [local irreducible] Yields Makes Writes
theorem cloneOf_pos (ad : Option Addr) (c : Nat) (l : List Of) (w : World) (hl : l.length ≤ 1000000) (h0 : 0 < l.length) (hE : ElAt w ad 9 (l.map Of.c)) :
  Calls Try.prog 34 #[.slice ad l.length c] w fun e w' => ∃ p : Nat × Nat, e = .returned (.slice (some ⟨p.1, 0, none⟩) l.length p.2) ∧ Fresh w w' (.row (some ⟨p.1, 0, none⟩) l.length p.2 33 9 (l.flatMap Of.c)) :=
  (cloneOf_any ad c l w hl hE).mono fun e w' ⟨pr, he, hf⟩ => by
    obtain ⟨a, k⟩ := pr
    obtain ⟨b, rfl⟩ := row_some hf.2.1 h0
    exact ⟨(b, k), he, hf⟩
theorem ElO.keepS {w w1 : World} {S T : List Nat} {ad : Option Addr} {sz : Nat} {els : List (List Value)} {H : List HA} (h : ElO w T ad sz els) (hw : Hp w S H w1) (hs : ∀ x ∈ S, x ∈ T) : ElO w1 T ad sz els := fun i cs hc =>
  let ⟨b, o, e, hb, h1⟩ := h i cs hc; ⟨b, o, e, hb, fun j u hj => hw.cell (h1 j u hj) fun hx => hb (hs b hx)⟩
theorem fairV_fits (raw m : Int) (h : fits .u64 raw) : fits .u64 (fairV raw m) := by
  simp only [fits] at *
  unfold fairV
  split
  · split
    · omega
    · have h1 := Int.emod_lt_of_pos raw (show 0 < m by omega)
      have h2 := Int.emod_nonneg raw (show m ≠ 0 by omega)
      omega
  · omega
theorem flat_upd {x : Of} {v : List Value} : ∀ (l : List Of) (n j : Nat) (u : Value) (h : n < l.length), j < 9 → Of.c x = (Of.c l[n]).set j u → (l.flatMap Of.c).set (n * 9 + j) u = (l.set n x).flatMap Of.c
  | [], n, j, u, h, _, _ => by cases h
  | y :: l, 0, j, u, h, hj, hx => by
    rw [List.set_cons_zero, List.flatMap_cons, List.flatMap_cons, hx, Nat.zero_mul, Nat.zero_add, List.set_append_left _ _ (by exact hj)]; rfl
  | y :: l, n + 1, j, u, h, hj, hx => by
    rw [List.set_cons_succ, List.flatMap_cons, List.flatMap_cons, ← flat_upd (v := v) l n j u (Nat.lt_of_succ_lt_succ h) hj hx, show (n + 1) * 9 + j = 9 + (n * 9 + j) by omega, List.set_append_right _ _ (by show 9 ≤ _; omega), show 9 + (n * 9 + j) - (Of.c y).length = n * 9 + j by show 9 + (n * 9 + j) - 9 = _; omega]
theorem flat_off {l : List Of} {n : Nat} (h : n < l.length) (hf : l[n].taken = false) : (l.flatMap Of.c).set (n * 9 + 8) (.bool true) = (l.set n { l[n] with taken := true }).flatMap Of.c := flat_upd (v := []) l n 8 _ h (by decide) rfl

theorem lgone_any (b : Nat) (ch cl : ByteArray) (nx : Int) (ad : Option Addr) (l : List Of) (c : Nat) (w : World) (hl : l.length ≤ 1000) (hA : HA.ok w (.cells b [.string ch, .string cl, .int .u64 nx, .slice ad l.length c])) (hE1 : ElO w [b] ad 9 (l.map Of.c)) (s : Int) :
  Calls Try.prog 19 #[.pointer (some ⟨b, 0, none⟩), .int .u64 s] w fun e w' => ∃ pr : Option Addr × Nat, e = .returned (.int .i64 (goneE ⟨ch, cl, nx, l⟩ s)) ∧ Upd w w' (.cells b [.string ch, .string cl, .int .u64 nx, .slice ad l.length c]) (Bk.h (goneB ⟨ch, cl, nx, l⟩ s) b pr.1 pr.2) ∧ RowT w w' (ad, c) pr l ((goneB ⟨ch, cl, nx, l⟩ s)).l := by
 have hr := find_range l s
 refine calls_of (n := 23) (E := [(0, .pointer (some ⟨b, 0, none⟩)), (1, .int .u64 s)]) (W := Hp w [b] [.cells b [.string ch, .string cl, .int .u64 nx, .slice ad l.length c]]) Try.func19 rfl rfl (Nat.le_of_ble_eq_true rfl) rfl (Hp.start rfl hA) ?_
 refine jsr ?_
 refine jz ?_
 refine jnt ?_
 refine jsr ?_
 refine jz ?_
 refine jz ?_
 refine jpc (goes_func rfl) (fun w1 hw1 => lfind_any b ad l c w1 hl (CellAt.of_cells (hw1.get (A := .cells b [.string ch, .string cl, .int .u64 nx, .slice ad l.length c]) mem0) rfl) (hE1.keep hw1).el (s)) ?_
 refine jz ?_
 refine jnt ?_
 refine jc_seq ?_
 refine jsr ?_
 refine jz ?_
 refine jy (y_lss rfl rfl) ?_
 refine jl_prop (fun h10 => ?_) (fun h10 => ?_)
 ·first
  | (exfalso; omega)
  | (
   refine jnt ?_
   refine jc_true rfl ?_
   refine jsr ?_
   refine jz ?_
   refine jnt ?_
   refine jc_ret ?_
   refine jq_then_ret ?_
   refine jq_ret1 rfl rfl ?_
   exact fun w' hw => by
    have e : goneB ⟨ch, cl, nx, l⟩ s = ⟨ch, cl, nx, l⟩ ∧ goneE ⟨ch, cl, nx, l⟩ s = 6 := ⟨if_pos (by show findL l s < 0; omega), if_pos (by show findL l s < 0; omega)⟩
    rw [e.1, e.2]
    exact ⟨(ad, c), rfl, (hw).updd rfl, .inl ⟨rfl, rfl⟩⟩
   )
 ·first
  | (exfalso; omega)
  | (
   refine jnt ?_
   refine jc_false rfl ?_
   refine jc_skip ?_
   refine jq_then ?_
   refine jc_seq ?_
   obtain ⟨i, hi⟩ : ∃ i : Nat, findL l s = (i : Int) := ⟨(findL l s).toNat, by omega⟩
   refine jc_region ?_
   refine jz ?_
   refine jz ?_
   refine jz ?_
   refine jz ?_
   refine jz ?_
   refine jl_fcall rfl (by decide) rfl (goes_func rfl) (fun w1 hw1 => cloneOf_pos ad c l w1 (by omega) (by omega) (hE1.keep hw1).el) (fun ⟨b16, c16⟩ => ?_)
   refine jz ?_
   refine jz ?_
   refine jy (y_add_fits rfl rfl (by simp only [fits]; omega)) ?_
   refine juc (goes_func rfl) (fun w1 hw1 => delL_any b16 l i _ c16 w1 hi (by omega) hl hw1) ?_
   refine jz ?_
   refine jz ?_
   refine jst ?_
   refine jnt ?_
   refine jsr ?_
   refine jz ?_
   refine jnt ?_
   refine jc_ret ?_
   refine jq_ret1 rfl rfl ?_
   exact fun w' hw => by
    have e : goneB ⟨ch, cl, nx, l⟩ s = ⟨ch, cl, nx, l.eraseIdx i⟩ := by
     unfold goneB; rw [if_neg (by show ¬ findL l s < 0; omega)]; show Bk.mk _ _ _ (l.eraseIdx (findL l s).toNat) = _; rw [hi]; rfl
    have e1 : goneE ⟨ch, cl, nx, l⟩ s = 0 := if_neg (by show ¬ findL l s < 0; omega)
    have e2 : (l.eraseIdx i).length = l.length - 1 := List.length_eraseIdx_of_lt (by omega)
    rw [e, e1]
    refine ⟨(some ⟨b16, 0, none⟩, c16), rfl, ?_, RowT.new hw e2.symm mem0 rfl⟩
    show Upd w w' _ (.cells b [.string ch, .string cl, .int .u64 nx, .slice (some ⟨b16, 0, none⟩) (l.eraseIdx i).length c16])
    rw [e2]
    exact (hw.part (.cons del1 .nil)).updd rfl
   )

theorem lmay_any (b : Nat) (ch cl : ByteArray) (nx : Int) (l : List Of) (o : Of) (w : World) (hf : o.Fit) (hsz : o.salt.size ≤ 1000000) (h : CellAt w b 0 (.string ch)) :
  Calls Try.prog 50 #[.pointer (some ⟨b, 0, none⟩), .agg (Of.c o).toArray] w fun e w' => e = .returned (.bool (mayO ⟨ch, cl, nx, l⟩ o)) ∧ Ch [] w w' := by
 have hf1 := hf.face
 have hf2 := hf.wins
 have hf3 := hf.many
 have hf4 := hf.drawn
 refine calls_of (n := 74) (E := [(0, .pointer (some ⟨b, 0, none⟩)), (1, .agg (Of.c o).toArray)]) (W := Hp w [] []) Try.func50 rfl rfl (Nat.le_of_ble_eq_true rfl) rfl (Hp.nil _ _) ?_
 refine jsr ?_
 refine jl_m rfl (by decide) rfl (m_box rfl rfl) (fun b3 => ?_)
 refine jz ?_
 refine jnt ?_
 refine jsr ?_
 refine jz ?_
 refine jz ?_
 refine jz ?_
 refine jz ?_
 refine jz ?_
 refine jz ?_
 refine jpc (goes_func rfl) (fun w1 hw1 => nominal_any _ _ _ w1 hf1 hf2 hf3) ?_
 refine jz ?_
 refine jz ?_
 refine jz ?_
 refine jz ?_
 refine jz ?_
 refine jnt ?_
 refine jsr ?_
 refine jz ?_
 refine jz ?_
 refine jz ?_
 refine jz ?_
 refine jz ?_
 refine jz ?_
 refine jpc (goes_func rfl) (fun w1 hw1 => wins_any _ _ _ _ w1 hf4 ⟨by decide, by decide⟩ hf2 hf3) ?_
 refine jz ?_
 refine jz ?_
 refine jz ?_
 refine jz ?_
 refine jz ?_
 refine jnt ?_
 refine jc_seq ?_
 refine jc_draw (by kernel_rfl) (fun _ h => h.drew) ?_
 refine juz ?_
 refine juz ?_
 refine juz ?_
 refine juz ?_
 refine juz ?_
 refine juy (y_load_old rfl h List.not_mem_nil) ?_
 refine juy (y_seql rfl rfl) ?_
 refine ju_prop (fun h35 => ?_) (fun h35 => ?_)
 ·skip
  refine juz ?_
  refine juz ?_
  refine juz ?_
  refine juy (y_geq rfl rfl) ?_
  refine ju_prop (fun h39 => ?_) (fun h39 => ?_)
  ·first
   | (exfalso; omega)
   | (
    refine juy (y_pick_true rfl rfl) ?_
    refine juz ?_
    refine juz ?_
    refine juz ?_
    refine juy (y_leq rfl rfl) ?_
    refine ju_prop (fun h44 => ?_) (fun h44 => ?_)
    ·first
     | (exfalso; omega)
     | (
      refine juy (y_pick_true rfl rfl) ?_
      refine juz ?_
      refine juz ?_
      refine juz ?_
      refine juy (y_len_str rfl) ?_
      refine juy (y_leq rfl rfl) ?_
      refine ju_prop (fun h50 => ?_) (fun h50 => ?_)
      ·first
       | (exfalso; omega)
       | (
        refine juy (y_pick_true rfl rfl) ?_
        refine juz ?_
        refine juz ?_
        refine juz ?_
        refine juy (y_gtr rfl rfl) ?_
        refine ju_prop (fun h55 => ?_) (fun h55 => ?_)
        ·first
         | (exfalso; omega)
         | (
          refine juy (y_pick_true rfl rfl) ?_
          refine juz ?_
          refine juz ?_
          refine juy (y_eql rfl rfl) ?_
          refine ju_prop (fun h59 => ?_) (fun h59 => ?_)
          ·first
           | (exfalso; omega)
           | (
            refine juy (y_pick_true rfl rfl) ?_
            refine juz ?_
            refine juz ?_
            refine juy (y_eql rfl rfl) ?_
            refine ju_prop (fun h63 => ?_) (fun h63 => ?_)
            ·first
             | (exfalso; omega)
             | (
              refine juy (y_pick_true rfl rfl) ?_
              refine juz ?_
              refine juz ?_
              refine juz ?_
              refine juz ?_
              refine juz ?_
              refine juz ?_
              refine juz ?_
              refine ju_call rfl (by decide) rfl (goes_func rfl) (fun w1 hw1 => pcall hw1 (opens_any _ _ _ w1 hsz hf4)) ?_
              refine juy (y_pick_true rfl rfl) ?_
              refine juz ?_
              refine ju_nil ?_
              refine jq_then ?_
              refine jc_ret ?_
              refine jq_ret1 rfl rfl ?_
              exact fun _ hw => ⟨congrArg (fun b => Ending.returned (Value.bool b)) (by have hsz2 : o.salt.size ≤ 32 ↔ (o.salt.size : Int) ≤ 32 := (by omega); unfold mayO; simp only [hsz2]; clear hsz2; simp_all <;> (intros; omega)), hw.ch⟩
              )
            ·first
             | (exfalso; omega)
             | (
              refine juy (y_pick_true rfl rfl) ?_
              refine juz ?_
              refine ju_skip rfl (by decide) rfl ?_
              refine ju_skip rfl (by decide) rfl ?_
              refine ju_skip rfl (by decide) rfl ?_
              refine ju_skip rfl (by decide) rfl ?_
              refine ju_skip rfl (by decide) rfl ?_
              refine ju_skip rfl (by decide) rfl ?_
              refine ju_skip rfl (by decide) rfl ?_
              refine juy (y_pick_false rfl rfl) ?_
              refine juz ?_
              refine ju_nil ?_
              refine jq_then ?_
              refine jc_ret ?_
              refine jq_ret1 rfl rfl ?_
              exact fun _ hw => ⟨congrArg (fun b => Ending.returned (Value.bool b)) (by have hsz2 : o.salt.size ≤ 32 ↔ (o.salt.size : Int) ≤ 32 := (by omega); unfold mayO; simp only [hsz2]; clear hsz2; simp_all <;> (intros; omega)), hw.ch⟩
              )
            )
          ·first
           | (exfalso; omega)
           | (
            refine juy (y_pick_true rfl rfl) ?_
            refine juz ?_
            refine ju_skip rfl (by decide) rfl ?_
            refine ju_skip rfl (by decide) rfl ?_
            refine juy (y_pick_false rfl rfl) ?_
            refine juz ?_
            refine ju_skip rfl (by decide) rfl ?_
            refine ju_skip rfl (by decide) rfl ?_
            refine ju_skip rfl (by decide) rfl ?_
            refine ju_skip rfl (by decide) rfl ?_
            refine ju_skip rfl (by decide) rfl ?_
            refine ju_skip rfl (by decide) rfl ?_
            refine ju_skip rfl (by decide) rfl ?_
            refine juy (y_pick_false rfl rfl) ?_
            refine juz ?_
            refine ju_nil ?_
            refine jq_then ?_
            refine jc_ret ?_
            refine jq_ret1 rfl rfl ?_
            exact fun _ hw => ⟨congrArg (fun b => Ending.returned (Value.bool b)) (by have hsz2 : o.salt.size ≤ 32 ↔ (o.salt.size : Int) ≤ 32 := (by omega); unfold mayO; simp only [hsz2]; clear hsz2; simp_all <;> (intros; omega)), hw.ch⟩
            )
          )
        ·first
         | (exfalso; omega)
         | (
          refine juy (y_pick_true rfl rfl) ?_
          refine juz ?_
          refine ju_skip rfl (by decide) rfl ?_
          refine ju_skip rfl (by decide) rfl ?_
          refine juy (y_pick_false rfl rfl) ?_
          refine juz ?_
          refine ju_skip rfl (by decide) rfl ?_
          refine ju_skip rfl (by decide) rfl ?_
          refine juy (y_pick_false rfl rfl) ?_
          refine juz ?_
          refine ju_skip rfl (by decide) rfl ?_
          refine ju_skip rfl (by decide) rfl ?_
          refine ju_skip rfl (by decide) rfl ?_
          refine ju_skip rfl (by decide) rfl ?_
          refine ju_skip rfl (by decide) rfl ?_
          refine ju_skip rfl (by decide) rfl ?_
          refine ju_skip rfl (by decide) rfl ?_
          refine juy (y_pick_false rfl rfl) ?_
          refine juz ?_
          refine ju_nil ?_
          refine jq_then ?_
          refine jc_ret ?_
          refine jq_ret1 rfl rfl ?_
          exact fun _ hw => ⟨congrArg (fun b => Ending.returned (Value.bool b)) (by have hsz2 : o.salt.size ≤ 32 ↔ (o.salt.size : Int) ≤ 32 := (by omega); unfold mayO; simp only [hsz2]; clear hsz2; simp_all <;> (intros; omega)), hw.ch⟩
          )
        )
      ·first
       | (exfalso; omega)
       | (
        refine juy (y_pick_true rfl rfl) ?_
        refine juz ?_
        refine ju_skip rfl (by decide) rfl ?_
        refine ju_skip rfl (by decide) rfl ?_
        refine ju_skip rfl (by decide) rfl ?_
        refine juy (y_pick_false rfl rfl) ?_
        refine juz ?_
        refine ju_skip rfl (by decide) rfl ?_
        refine ju_skip rfl (by decide) rfl ?_
        refine juy (y_pick_false rfl rfl) ?_
        refine juz ?_
        refine ju_skip rfl (by decide) rfl ?_
        refine ju_skip rfl (by decide) rfl ?_
        refine juy (y_pick_false rfl rfl) ?_
        refine juz ?_
        refine ju_skip rfl (by decide) rfl ?_
        refine ju_skip rfl (by decide) rfl ?_
        refine ju_skip rfl (by decide) rfl ?_
        refine ju_skip rfl (by decide) rfl ?_
        refine ju_skip rfl (by decide) rfl ?_
        refine ju_skip rfl (by decide) rfl ?_
        refine ju_skip rfl (by decide) rfl ?_
        refine juy (y_pick_false rfl rfl) ?_
        refine juz ?_
        refine ju_nil ?_
        refine jq_then ?_
        refine jc_ret ?_
        refine jq_ret1 rfl rfl ?_
        exact fun _ hw => ⟨congrArg (fun b => Ending.returned (Value.bool b)) (by have hsz2 : o.salt.size ≤ 32 ↔ (o.salt.size : Int) ≤ 32 := (by omega); unfold mayO; simp only [hsz2]; clear hsz2; simp_all <;> (intros; omega)), hw.ch⟩
        )
      )
    ·first
     | (exfalso; omega)
     | (
      refine juy (y_pick_true rfl rfl) ?_
      refine juz ?_
      refine ju_skip rfl (by decide) rfl ?_
      refine ju_skip rfl (by decide) rfl ?_
      refine ju_skip rfl (by decide) rfl ?_
      refine ju_skip rfl (by decide) rfl ?_
      refine juy (y_pick_false rfl rfl) ?_
      refine juz ?_
      refine ju_skip rfl (by decide) rfl ?_
      refine ju_skip rfl (by decide) rfl ?_
      refine ju_skip rfl (by decide) rfl ?_
      refine juy (y_pick_false rfl rfl) ?_
      refine juz ?_
      refine ju_skip rfl (by decide) rfl ?_
      refine ju_skip rfl (by decide) rfl ?_
      refine juy (y_pick_false rfl rfl) ?_
      refine juz ?_
      refine ju_skip rfl (by decide) rfl ?_
      refine ju_skip rfl (by decide) rfl ?_
      refine juy (y_pick_false rfl rfl) ?_
      refine juz ?_
      refine ju_skip rfl (by decide) rfl ?_
      refine ju_skip rfl (by decide) rfl ?_
      refine ju_skip rfl (by decide) rfl ?_
      refine ju_skip rfl (by decide) rfl ?_
      refine ju_skip rfl (by decide) rfl ?_
      refine ju_skip rfl (by decide) rfl ?_
      refine ju_skip rfl (by decide) rfl ?_
      refine juy (y_pick_false rfl rfl) ?_
      refine juz ?_
      refine ju_nil ?_
      refine jq_then ?_
      refine jc_ret ?_
      refine jq_ret1 rfl rfl ?_
      exact fun _ hw => ⟨congrArg (fun b => Ending.returned (Value.bool b)) (by have hsz2 : o.salt.size ≤ 32 ↔ (o.salt.size : Int) ≤ 32 := (by omega); unfold mayO; simp only [hsz2]; clear hsz2; simp_all <;> (intros; omega)), hw.ch⟩
      )
    )
  ·first
   | (exfalso; omega)
   | (
    refine juy (y_pick_true rfl rfl) ?_
    refine juz ?_
    refine ju_skip rfl (by decide) rfl ?_
    refine ju_skip rfl (by decide) rfl ?_
    refine ju_skip rfl (by decide) rfl ?_
    refine juy (y_pick_false rfl rfl) ?_
    refine juz ?_
    refine ju_skip rfl (by decide) rfl ?_
    refine ju_skip rfl (by decide) rfl ?_
    refine ju_skip rfl (by decide) rfl ?_
    refine ju_skip rfl (by decide) rfl ?_
    refine juy (y_pick_false rfl rfl) ?_
    refine juz ?_
    refine ju_skip rfl (by decide) rfl ?_
    refine ju_skip rfl (by decide) rfl ?_
    refine ju_skip rfl (by decide) rfl ?_
    refine juy (y_pick_false rfl rfl) ?_
    refine juz ?_
    refine ju_skip rfl (by decide) rfl ?_
    refine ju_skip rfl (by decide) rfl ?_
    refine juy (y_pick_false rfl rfl) ?_
    refine juz ?_
    refine ju_skip rfl (by decide) rfl ?_
    refine ju_skip rfl (by decide) rfl ?_
    refine juy (y_pick_false rfl rfl) ?_
    refine juz ?_
    refine ju_skip rfl (by decide) rfl ?_
    refine ju_skip rfl (by decide) rfl ?_
    refine ju_skip rfl (by decide) rfl ?_
    refine ju_skip rfl (by decide) rfl ?_
    refine ju_skip rfl (by decide) rfl ?_
    refine ju_skip rfl (by decide) rfl ?_
    refine ju_skip rfl (by decide) rfl ?_
    refine juy (y_pick_false rfl rfl) ?_
    refine juz ?_
    refine ju_nil ?_
    refine jq_then ?_
    refine jc_ret ?_
    refine jq_ret1 rfl rfl ?_
    exact fun _ hw => ⟨congrArg (fun b => Ending.returned (Value.bool b)) (by have hsz2 : o.salt.size ≤ 32 ↔ (o.salt.size : Int) ≤ 32 := (by omega); unfold mayO; simp only [hsz2]; clear hsz2; simp_all <;> (intros; omega)), hw.ch⟩
    )
 ·skip
  refine juz ?_
  refine ju_skip rfl (by decide) rfl ?_
  refine ju_skip rfl (by decide) rfl ?_
  refine ju_skip rfl (by decide) rfl ?_
  refine juy (y_pick_false rfl rfl) ?_
  refine juz ?_
  refine ju_skip rfl (by decide) rfl ?_
  refine ju_skip rfl (by decide) rfl ?_
  refine ju_skip rfl (by decide) rfl ?_
  refine juy (y_pick_false rfl rfl) ?_
  refine juz ?_
  refine ju_skip rfl (by decide) rfl ?_
  refine ju_skip rfl (by decide) rfl ?_
  refine ju_skip rfl (by decide) rfl ?_
  refine ju_skip rfl (by decide) rfl ?_
  refine juy (y_pick_false rfl rfl) ?_
  refine juz ?_
  refine ju_skip rfl (by decide) rfl ?_
  refine ju_skip rfl (by decide) rfl ?_
  refine ju_skip rfl (by decide) rfl ?_
  refine juy (y_pick_false rfl rfl) ?_
  refine juz ?_
  refine ju_skip rfl (by decide) rfl ?_
  refine ju_skip rfl (by decide) rfl ?_
  refine juy (y_pick_false rfl rfl) ?_
  refine juz ?_
  refine ju_skip rfl (by decide) rfl ?_
  refine ju_skip rfl (by decide) rfl ?_
  refine juy (y_pick_false rfl rfl) ?_
  refine juz ?_
  refine ju_skip rfl (by decide) rfl ?_
  refine ju_skip rfl (by decide) rfl ?_
  refine ju_skip rfl (by decide) rfl ?_
  refine ju_skip rfl (by decide) rfl ?_
  refine ju_skip rfl (by decide) rfl ?_
  refine ju_skip rfl (by decide) rfl ?_
  refine ju_skip rfl (by decide) rfl ?_
  refine juy (y_pick_false rfl rfl) ?_
  refine juz ?_
  refine ju_nil ?_
  refine jq_then ?_
  refine jc_ret ?_
  refine jq_ret1 rfl rfl ?_
  exact fun _ hw => ⟨congrArg (fun b => Ending.returned (Value.bool b)) (by have hsz2 : o.salt.size ≤ 32 ↔ (o.salt.size : Int) ≤ 32 := (by omega); unfold mayO; simp only [hsz2]; clear hsz2; simp_all <;> (intros; omega)), hw.ch⟩

theorem lput_any (b : Nat) (ch cl : ByteArray) (nx : Int) (ad : Option Addr) (l : List Of) (c : Nat) (w : World) (hl : l.length ≤ 1000) (hA : HA.ok w (.cells b [.string ch, .string cl, .int .u64 nx, .slice ad l.length c])) (hE1 : ElO w [b] ad 9 (l.map Of.c)) (o : Of) (hf : o.Fit) (hsz : o.salt.size ≤ 1000000) (hlf : ∀ x ∈ l, fits .u64 x.face) (hnx : fits .u64 nx) :
  Calls Try.prog 22 #[.pointer (some ⟨b, 0, none⟩), .agg (Of.c o).toArray] w fun e w' => ∃ pr : Option Addr × Nat, e = .returned (.int .i64 (putE ⟨ch, cl, nx, l⟩ o)) ∧ Upd w w' (.cells b [.string ch, .string cl, .int .u64 nx, .slice ad l.length c]) (Bk.h (putB ⟨ch, cl, nx, l⟩ o) b pr.1 pr.2) ∧ RowT w w' (ad, c) pr l ((putB ⟨ch, cl, nx, l⟩ o)).l := by
 have hr := find_range l o.serial
 have hf5 := hf.face
 have hf6 := hf.serial
 refine calls_of (n := 50) (E := [(0, .pointer (some ⟨b, 0, none⟩)), (1, .agg (Of.c o).toArray)]) (W := Hp w [b] [.cells b [.string ch, .string cl, .int .u64 nx, .slice ad l.length c]]) Try.func22 rfl rfl (Nat.le_of_ble_eq_true rfl) rfl (Hp.start rfl hA) ?_
 refine jsr ?_
 refine jl_m rfl (by decide) rfl (m_box rfl rfl) (fun b3 => ?_)
 refine jz ?_
 refine jnt ?_
 refine jc_seq ?_
 refine jc_block ?_
 refine jsr ?_
 refine jz ?_
 refine jz ?_
 refine jpc (goes_func rfl) (fun w1 hw1 => lmay_any b ch cl nx l o w1 hf hsz (CellAt.of_cells (hw1.get (A := .cells b [.string ch, .string cl, .int .u64 nx, .slice ad l.length c]) mem1) rfl)) ?_
 refine jl_bool (fun h10 => ?_) (fun h10 => ?_)
 ·skip
  refine jz ?_
  refine jz ?_
  refine jnt ?_
  refine jc_false rfl ?_
  refine jsr ?_
  refine jz ?_
  refine jz ?_
  refine jz ?_
  refine jpc (goes_func rfl) (fun w1 hw1 => lfind_any b ad l c w1 hl (CellAt.of_cells (hw1.get (A := .cells b [.string ch, .string cl, .int .u64 nx, .slice ad l.length c]) mem1) rfl) (hE1.keep hw1).el (o.serial)) ?_
  refine jy (y_geq rfl rfl) ?_
  refine jl_prop (fun h17 => ?_) (fun h17 => ?_)
  ·first
   | (exfalso; omega)
   | (
    refine jz ?_
    refine jnt ?_
    refine jc_true rfl ?_
    refine jsr ?_
    refine jz ?_
    refine jnt ?_
    refine jc_ret ?_
    refine jq_block_ret ?_
    refine jq_then_ret ?_
    refine jq_ret1 rfl rfl ?_
    exact fun w' hw => by
     have e : putB ⟨ch, cl, nx, l⟩ o = ⟨ch, cl, nx, l⟩ ∧ putE ⟨ch, cl, nx, l⟩ o = (7 : Int) := by
      have e0 : putE ⟨ch, cl, nx, l⟩ o = (7 : Int) := by unfold putE; rw [if_pos (show mayO ⟨ch, cl, nx, l⟩ o = true by assumption)]; show (if 0 ≤ findL l o.serial then (7 : Int) else _) = 7; rw [if_pos (by omega)]
      have hn : ¬ (7 : Int) = 0 := by first | decide | assumption
      exact ⟨by unfold putB; rw [if_neg (by rw [e0]; exact hn)], e0⟩
     rw [e.1, e.2]
     exact ⟨(ad, c), rfl, (hw.part (F := [.cells b [.string ch, .string cl, .int .u64 nx, .slice ad l.length c]]) (.cons del1 .nil)).updd rfl, .inl ⟨rfl, rfl⟩⟩
    )
  ·first
   | (exfalso; omega)
   | (
    refine jz ?_
    refine jnt ?_
    refine jc_false rfl ?_
    refine jc_skip ?_
    refine jq_block ?_
    refine jq_then ?_
    refine jsr ?_
    refine jz ?_
    refine jz ?_
    refine jz ?_
    refine jnt ?_
    refine jc_seq ?_
    refine jsr ?_
    refine jz ?_
    refine jz ?_
    refine jl_bool (fun h21 => ?_) (fun h21 => ?_)
    ·skip
     refine jnt ?_
     refine jc_true rfl ?_
     refine jc_region ?_
     refine jz ?_
     refine jnt ?_
     refine jc_seq ?_
     refine jsr ?_
     refine jz ?_
     refine jz ?_
     refine jpc (goes_func rfl) (fun w1 hw1 => lroom_any b ad l c w1 hl (CellAt.of_cells (hw1.get (A := .cells b [.string ch, .string cl, .int .u64 nx, .slice ad l.length c]) mem1) rfl) (hE1.keep hw1).el hlf _ (by first | exact hf5 | exact ⟨by decide, by decide⟩)) ?_
     refine jz ?_
     refine jnt ?_
     refine jsr ?_
     refine jz ?_
     refine jy (y_neq rfl rfl) ?_
     refine jl_prop (fun h26 => ?_) (fun h26 => ?_)
     ·first
      | (exfalso; omega)
      | (
       refine jnt ?_
       refine jc_true rfl ?_
       refine jsr ?_
       refine jz ?_
       refine jz ?_
       refine jnt ?_
       refine jc_ret ?_
       refine jq_then_ret ?_
       refine jq_ret1 rfl rfl ?_
       first
       | exact fun w' hw => by
          have e : putB ⟨ch, cl, nx, l⟩ o = ⟨ch, cl, nx, l⟩ ∧ putE ⟨ch, cl, nx, l⟩ o = roomE l 0 := by
           have e0 : putE ⟨ch, cl, nx, l⟩ o = roomE l 0 := by unfold putE; rw [if_pos (show mayO ⟨ch, cl, nx, l⟩ o = true by assumption)]; show (if 0 ≤ findL l o.serial then (7 : Int) else roomE l (if o.taken = true then 0 else o.face)) = _; rw [if_neg (by omega)]; first | rw [if_pos (show o.taken = true by assumption)] | rw [if_neg (show ¬ o.taken = true by rw [show o.taken = false by assumption]; decide)]
           have hn : ¬ roomE l 0 = 0 := by first | decide | assumption
           exact ⟨by unfold putB; rw [if_neg (by rw [e0]; exact hn)], e0⟩
          rw [e.1, e.2]
          exact ⟨(ad, c), rfl, (hw.part (F := [.cells b [.string ch, .string cl, .int .u64 nx, .slice ad l.length c]]) (.cons del1 .nil)).updd rfl, .inl ⟨rfl, rfl⟩⟩
       | exact fun w' hw => by
          have e : putB ⟨ch, cl, nx, l⟩ o = ⟨ch, cl, nx, l⟩ ∧ putE ⟨ch, cl, nx, l⟩ o = roomE l o.face := by
           have e0 : putE ⟨ch, cl, nx, l⟩ o = roomE l o.face := by unfold putE; rw [if_pos (show mayO ⟨ch, cl, nx, l⟩ o = true by assumption)]; show (if 0 ≤ findL l o.serial then (7 : Int) else roomE l (if o.taken = true then 0 else o.face)) = _; rw [if_neg (by omega)]; first | rw [if_pos (show o.taken = true by assumption)] | rw [if_neg (show ¬ o.taken = true by rw [show o.taken = false by assumption]; decide)]
           have hn : ¬ roomE l o.face = 0 := by first | decide | assumption
           exact ⟨by unfold putB; rw [if_neg (by rw [e0]; exact hn)], e0⟩
          rw [e.1, e.2]
          exact ⟨(ad, c), rfl, (hw.part (F := [.cells b [.string ch, .string cl, .int .u64 nx, .slice ad l.length c]]) (.cons del1 .nil)).updd rfl, .inl ⟨rfl, rfl⟩⟩
       )
     ·first
      | (exfalso; omega)
      | (
       refine jnt ?_
       refine jc_false rfl ?_
       refine jc_skip ?_
       refine jq_then ?_
       refine jc_seq ?_
       refine jc_tree 11 (.step 0 true (.step 1 true (.step 2 true (.step 3 true (.step 4 true (.step 6 true (.fork 5 (.step 7 false (.step 8 false (.step 9 true (.step 10 true .nil)))) 7 (.step 5 false (.step 8 false (.step 9 true (.step 10 true .nil))))))))))) (by kernel_rfl) (fun _ _ _ _ h => h) (fun _ h => h.drew) ?_
       simp only [List.drop_succ_cons, List.drop_zero]
       refine jf_take rfl rfl (by decide) rfl (y_move rfl) ?_
       refine jf_take rfl rfl (by decide) rfl (y_move rfl) ?_
       first | refine jf_take rfl rfl (by decide) rfl (y_nilCheck rfl) ?_ | refine jf_take rfl rfl (by decide) rfl (y_nilCheck_func rfl) ?_
       refine jf_take rfl rfl (by decide) rfl (y_fieldAddr rfl) ?_
       first | refine jf_take rfl rfl (by decide) rfl (y_load rfl (by first | exact mem0 | exact mem1 | exact mem2 | exact mem3 | exact mem4 | exact mem5) rfl) ?_ | refine jf_take rfl rfl (by decide) rfl (y_load_row rfl (by first | exact mem0 | exact mem1 | exact mem2 | exact mem3 | exact mem4 | exact mem5) rfl) ?_ | refine jf_take rfl rfl (by decide) rfl (y_load_old rfl (by assumption) (by simp)) ?_
       first | refine jf_take rfl rfl (by decide) rfl (y_loadAgg rfl (by first | exact mem0 | exact mem1 | exact mem2 | exact mem3 | exact mem4 | exact mem5) (by repeat constructor)) ?_ | refine jf_take rfl rfl (by decide) rfl (y_loadAgg_row rfl (by first | exact mem0 | exact mem1 | exact mem2 | exact mem3 | exact mem4 | exact mem5) rfl (by assumption)) ?_ | refine jf_take rfl rfl (by decide) rfl (y_loadAgg_old rfl rfl (by assumption) (by simp)) ?_
       refine jf_fork ?_ ?_
       ·skip
        refine jf_fcall (by intros; rename_i h; first | exact h | exact h.pop | exact h.pop.pop | exact h.pop.pop.pop | exact h.pop.pop.pop.pop | exact h.pop.pop.pop.pop.pop | exact h.pop.pop.pop.pop.pop.pop | exact h.part .nil) rfl rfl (by decide) rfl (goes_func rfl) (fun w1 hw1 => cloneOf_any ad c l w1 (by omega) (hE1.keep hw1).el) (fun ⟨a29, c29⟩ => ?_)
        refine jf_m (by intros; rename_i h; first | exact h | exact h.pop | exact h.pop.pop | exact h.pop.pop.pop | exact h.pop.pop.pop.pop | exact h.pop.pop.pop.pop.pop | exact h.pop.pop.pop.pop.pop.pop | exact h.part .nil) rfl rfl (by decide) rfl (m_buildSlice (size := 9) (by decide) (Built.agg rfl rfl rfl (by repeat constructor) Built.nil)) (fun b35 => ?_)
        refine jf_m2 (by intros; rename_i h; first | exact h | exact h.pop | exact h.pop.pop | exact h.pop.pop.pop | exact h.pop.pop.pop.pop | exact h.pop.pop.pop.pop.pop | exact h.pop.pop.pop.pop.pop.pop | exact h.part .nil) rfl rfl (by decide) rfl (m_append rfl rfl (by first | exact del0 | exact del1 | exact del2 | exact del3 | exact del4) (by first | exact del0 | exact del1 | exact del2 | exact del3 | exact del4) rfl (by omega) (by omega)) (fun a36 c36 => ?_)
        first | refine jf_take rfl rfl (by decide) rfl (y_nilCheck rfl) ?_ | refine jf_take rfl rfl (by decide) rfl (y_nilCheck_func rfl) ?_
        refine jf_take rfl rfl (by decide) rfl (y_fieldAddr rfl) ?_
        refine jf_nil ?_
        refine jst ?_
        refine jnt ?_
        refine jc_seq ?_
        refine jc_tail 11 (by kernel_rfl) (fun _ h => h.drew) ?_
        simp only [List.take_succ_cons, List.take_zero, List.drop_succ_cons, List.drop_zero]
        refine jtz ?_
        refine jtz ?_
        refine jtz ?_
        refine jtz ?_
        refine jtz ?_
        refine jtz ?_
        refine jtz ?_
        refine jty (y_add_u64 rfl rfl) ?_
        refine jty (y_max rfl rfl) ?_
        refine jtz ?_
        refine jtz ?_
        refine jt_nil ?_
        refine jst ?_
        refine jnt ?_
        refine jsr ?_
        refine jz ?_
        refine jnt ?_
        refine jc_ret ?_
        refine jq_ret1 rfl rfl ?_
        exact fun w' hw => by
         have hm := (of_decide_eq_true (show mayO ⟨ch, cl, nx, l⟩ o = true by assumption)).2
         obtain ⟨hm1, hm2, _⟩ := hm
         have e0 : putE ⟨ch, cl, nx, l⟩ o = 0 := by
          unfold putE
          rw [if_pos (show mayO ⟨ch, cl, nx, l⟩ o = true by assumption)]
          show (if 0 ≤ findL l o.serial then (7 : Int) else roomE l (if o.taken = true then 0 else o.face)) = _
          rw [if_neg (by omega)]
          first | rw [if_pos (show o.taken = true by assumption)] | rw [if_neg (show ¬ o.taken = true by rw [show o.taken = false by assumption]; decide)]
          exact Decidable.not_not.1 (by assumption)
         have e : putB ⟨ch, cl, nx, l⟩ o = ⟨ch, cl, max nx (o.serial + 1), l ++ [o]⟩ := if_pos e0
         rw [e, e0]
         have hw2 := hw.cast (H' := [.row a36 (l.length + 1) c36 33 9 ((l ++ [o]).flatMap Of.c), .cells b3 (Of.c o), .cells b [.string ch, .string cl, .int .u64 (max nx (o.serial + 1)), .slice a36 (l.length + 1) c36]]) (by rw [List.flatMap_append, show (o.serial + 1) % 18446744073709551616 = o.serial + 1 by omega] <;> rfl)
         refine ⟨(a36, c36), rfl, ?_, RowT.new hw2 (by rw [List.length_append] <;> rfl) (.tail _ (.head _)) rfl⟩
         show Upd w w' _ (.cells b [.string ch, .string cl, .int .u64 (max nx (o.serial + 1)), .slice a36 (l ++ [o]).length c36])
         rw [List.length_append]
         exact (hw2.part (.cons del2 .nil)).updd rfl
       ·skip
        refine jf_m (by intros; rename_i h; first | exact h | exact h.pop | exact h.pop.pop | exact h.pop.pop.pop | exact h.pop.pop.pop.pop | exact h.pop.pop.pop.pop.pop | exact h.pop.pop.pop.pop.pop.pop | exact h.part .nil) rfl rfl (by decide) rfl (m_buildSlice (size := 9) (by decide) (Built.agg rfl rfl rfl (by repeat constructor) Built.nil)) (fun b35 => ?_)
        refine jf_fcall (by intros; rename_i h; first | exact h | exact h.pop | exact h.pop.pop | exact h.pop.pop.pop | exact h.pop.pop.pop.pop | exact h.pop.pop.pop.pop.pop | exact h.pop.pop.pop.pop.pop.pop | exact h.part .nil) rfl rfl (by decide) rfl (goes_func rfl) (fun w1 hw1 => cloneOf_any ad c l w1 (by omega) (hE1.keep hw1).el) (fun ⟨a29, c29⟩ => ?_)
        refine jf_m2 (by intros; rename_i h; first | exact h | exact h.pop | exact h.pop.pop | exact h.pop.pop.pop | exact h.pop.pop.pop.pop | exact h.pop.pop.pop.pop.pop | exact h.pop.pop.pop.pop.pop.pop | exact h.part .nil) rfl rfl (by decide) rfl (m_append rfl rfl (by first | exact del0 | exact del1 | exact del2 | exact del3 | exact del4) (by first | exact del0 | exact del1 | exact del2 | exact del3 | exact del4) rfl (by omega) (by omega)) (fun a36 c36 => ?_)
        first | refine jf_take rfl rfl (by decide) rfl (y_nilCheck rfl) ?_ | refine jf_take rfl rfl (by decide) rfl (y_nilCheck_func rfl) ?_
        refine jf_take rfl rfl (by decide) rfl (y_fieldAddr rfl) ?_
        refine jf_nil ?_
        refine jst ?_
        refine jnt ?_
        refine jc_seq ?_
        refine jc_tail 11 (by kernel_rfl) (fun _ h => h.drew) ?_
        simp only [List.take_succ_cons, List.take_zero, List.drop_succ_cons, List.drop_zero]
        refine jtz ?_
        refine jtz ?_
        refine jtz ?_
        refine jtz ?_
        refine jtz ?_
        refine jtz ?_
        refine jtz ?_
        refine jty (y_add_u64 rfl rfl) ?_
        refine jty (y_max rfl rfl) ?_
        refine jtz ?_
        refine jtz ?_
        refine jt_nil ?_
        refine jst ?_
        refine jnt ?_
        refine jsr ?_
        refine jz ?_
        refine jnt ?_
        refine jc_ret ?_
        refine jq_ret1 rfl rfl ?_
        exact fun w' hw => by
         have hm := (of_decide_eq_true (show mayO ⟨ch, cl, nx, l⟩ o = true by assumption)).2
         obtain ⟨hm1, hm2, _⟩ := hm
         have e0 : putE ⟨ch, cl, nx, l⟩ o = 0 := by
          unfold putE
          rw [if_pos (show mayO ⟨ch, cl, nx, l⟩ o = true by assumption)]
          show (if 0 ≤ findL l o.serial then (7 : Int) else roomE l (if o.taken = true then 0 else o.face)) = _
          rw [if_neg (by omega)]
          first | rw [if_pos (show o.taken = true by assumption)] | rw [if_neg (show ¬ o.taken = true by rw [show o.taken = false by assumption]; decide)]
          exact Decidable.not_not.1 (by assumption)
         have e : putB ⟨ch, cl, nx, l⟩ o = ⟨ch, cl, max nx (o.serial + 1), l ++ [o]⟩ := if_pos e0
         rw [e, e0]
         have hw2 := hw.cast (H' := [.row a36 (l.length + 1) c36 33 9 ((l ++ [o]).flatMap Of.c), .cells b3 (Of.c o), .cells b [.string ch, .string cl, .int .u64 (max nx (o.serial + 1)), .slice a36 (l.length + 1) c36]]) (by rw [List.flatMap_append, show (o.serial + 1) % 18446744073709551616 = o.serial + 1 by omega] <;> rfl)
         refine ⟨(a36, c36), rfl, ?_, RowT.new hw2 (by rw [List.length_append] <;> rfl) (.tail _ (.head _)) rfl⟩
         show Upd w w' _ (.cells b [.string ch, .string cl, .int .u64 (max nx (o.serial + 1)), .slice a36 (l ++ [o]).length c36])
         rw [List.length_append]
         exact (hw2.part (.cons del2 .nil)).updd rfl
       )
    ·skip
     refine jnt ?_
     refine jc_false rfl ?_
     refine jc_skip ?_
     refine jq_then ?_
     refine jc_seq ?_
     refine jsr ?_
     refine jz ?_
     refine jz ?_
     refine jpc (goes_func rfl) (fun w1 hw1 => lroom_any b ad l c w1 hl (CellAt.of_cells (hw1.get (A := .cells b [.string ch, .string cl, .int .u64 nx, .slice ad l.length c]) mem1) rfl) (hE1.keep hw1).el hlf _ (by first | exact hf5 | exact ⟨by decide, by decide⟩)) ?_
     refine jz ?_
     refine jnt ?_
     refine jsr ?_
     refine jz ?_
     refine jy (y_neq rfl rfl) ?_
     refine jl_prop (fun h26 => ?_) (fun h26 => ?_)
     ·first
      | (exfalso; omega)
      | (
       refine jnt ?_
       refine jc_true rfl ?_
       refine jsr ?_
       refine jz ?_
       refine jz ?_
       refine jnt ?_
       refine jc_ret ?_
       refine jq_then_ret ?_
       refine jq_ret1 rfl rfl ?_
       first
       | exact fun w' hw => by
          have e : putB ⟨ch, cl, nx, l⟩ o = ⟨ch, cl, nx, l⟩ ∧ putE ⟨ch, cl, nx, l⟩ o = roomE l 0 := by
           have e0 : putE ⟨ch, cl, nx, l⟩ o = roomE l 0 := by unfold putE; rw [if_pos (show mayO ⟨ch, cl, nx, l⟩ o = true by assumption)]; show (if 0 ≤ findL l o.serial then (7 : Int) else roomE l (if o.taken = true then 0 else o.face)) = _; rw [if_neg (by omega)]; first | rw [if_pos (show o.taken = true by assumption)] | rw [if_neg (show ¬ o.taken = true by rw [show o.taken = false by assumption]; decide)]
           have hn : ¬ roomE l 0 = 0 := by first | decide | assumption
           exact ⟨by unfold putB; rw [if_neg (by rw [e0]; exact hn)], e0⟩
          rw [e.1, e.2]
          exact ⟨(ad, c), rfl, (hw.part (F := [.cells b [.string ch, .string cl, .int .u64 nx, .slice ad l.length c]]) (.cons del1 .nil)).updd rfl, .inl ⟨rfl, rfl⟩⟩
       | exact fun w' hw => by
          have e : putB ⟨ch, cl, nx, l⟩ o = ⟨ch, cl, nx, l⟩ ∧ putE ⟨ch, cl, nx, l⟩ o = roomE l o.face := by
           have e0 : putE ⟨ch, cl, nx, l⟩ o = roomE l o.face := by unfold putE; rw [if_pos (show mayO ⟨ch, cl, nx, l⟩ o = true by assumption)]; show (if 0 ≤ findL l o.serial then (7 : Int) else roomE l (if o.taken = true then 0 else o.face)) = _; rw [if_neg (by omega)]; first | rw [if_pos (show o.taken = true by assumption)] | rw [if_neg (show ¬ o.taken = true by rw [show o.taken = false by assumption]; decide)]
           have hn : ¬ roomE l o.face = 0 := by first | decide | assumption
           exact ⟨by unfold putB; rw [if_neg (by rw [e0]; exact hn)], e0⟩
          rw [e.1, e.2]
          exact ⟨(ad, c), rfl, (hw.part (F := [.cells b [.string ch, .string cl, .int .u64 nx, .slice ad l.length c]]) (.cons del1 .nil)).updd rfl, .inl ⟨rfl, rfl⟩⟩
       )
     ·first
      | (exfalso; omega)
      | (
       refine jnt ?_
       refine jc_false rfl ?_
       refine jc_skip ?_
       refine jq_then ?_
       refine jc_seq ?_
       refine jc_tree 11 (.step 0 true (.step 1 true (.step 2 true (.step 3 true (.step 4 true (.step 6 true (.fork 5 (.step 7 false (.step 8 false (.step 9 true (.step 10 true .nil)))) 7 (.step 5 false (.step 8 false (.step 9 true (.step 10 true .nil))))))))))) (by kernel_rfl) (fun _ _ _ _ h => h) (fun _ h => h.drew) ?_
       simp only [List.drop_succ_cons, List.drop_zero]
       refine jf_take rfl rfl (by decide) rfl (y_move rfl) ?_
       refine jf_take rfl rfl (by decide) rfl (y_move rfl) ?_
       first | refine jf_take rfl rfl (by decide) rfl (y_nilCheck rfl) ?_ | refine jf_take rfl rfl (by decide) rfl (y_nilCheck_func rfl) ?_
       refine jf_take rfl rfl (by decide) rfl (y_fieldAddr rfl) ?_
       first | refine jf_take rfl rfl (by decide) rfl (y_load rfl (by first | exact mem0 | exact mem1 | exact mem2 | exact mem3 | exact mem4 | exact mem5) rfl) ?_ | refine jf_take rfl rfl (by decide) rfl (y_load_row rfl (by first | exact mem0 | exact mem1 | exact mem2 | exact mem3 | exact mem4 | exact mem5) rfl) ?_ | refine jf_take rfl rfl (by decide) rfl (y_load_old rfl (by assumption) (by simp)) ?_
       first | refine jf_take rfl rfl (by decide) rfl (y_loadAgg rfl (by first | exact mem0 | exact mem1 | exact mem2 | exact mem3 | exact mem4 | exact mem5) (by repeat constructor)) ?_ | refine jf_take rfl rfl (by decide) rfl (y_loadAgg_row rfl (by first | exact mem0 | exact mem1 | exact mem2 | exact mem3 | exact mem4 | exact mem5) rfl (by assumption)) ?_ | refine jf_take rfl rfl (by decide) rfl (y_loadAgg_old rfl rfl (by assumption) (by simp)) ?_
       refine jf_fork ?_ ?_
       ·skip
        refine jf_fcall (by intros; rename_i h; first | exact h | exact h.pop | exact h.pop.pop | exact h.pop.pop.pop | exact h.pop.pop.pop.pop | exact h.pop.pop.pop.pop.pop | exact h.pop.pop.pop.pop.pop.pop | exact h.part .nil) rfl rfl (by decide) rfl (goes_func rfl) (fun w1 hw1 => cloneOf_any ad c l w1 (by omega) (hE1.keep hw1).el) (fun ⟨a29, c29⟩ => ?_)
        refine jf_m (by intros; rename_i h; first | exact h | exact h.pop | exact h.pop.pop | exact h.pop.pop.pop | exact h.pop.pop.pop.pop | exact h.pop.pop.pop.pop.pop | exact h.pop.pop.pop.pop.pop.pop | exact h.part .nil) rfl rfl (by decide) rfl (m_buildSlice (size := 9) (by decide) (Built.agg rfl rfl rfl (by repeat constructor) Built.nil)) (fun b35 => ?_)
        refine jf_m2 (by intros; rename_i h; first | exact h | exact h.pop | exact h.pop.pop | exact h.pop.pop.pop | exact h.pop.pop.pop.pop | exact h.pop.pop.pop.pop.pop | exact h.pop.pop.pop.pop.pop.pop | exact h.part .nil) rfl rfl (by decide) rfl (m_append rfl rfl (by first | exact del0 | exact del1 | exact del2 | exact del3 | exact del4) (by first | exact del0 | exact del1 | exact del2 | exact del3 | exact del4) rfl (by omega) (by omega)) (fun a36 c36 => ?_)
        first | refine jf_take rfl rfl (by decide) rfl (y_nilCheck rfl) ?_ | refine jf_take rfl rfl (by decide) rfl (y_nilCheck_func rfl) ?_
        refine jf_take rfl rfl (by decide) rfl (y_fieldAddr rfl) ?_
        refine jf_nil ?_
        refine jst ?_
        refine jnt ?_
        refine jc_seq ?_
        refine jc_tail 11 (by kernel_rfl) (fun _ h => h.drew) ?_
        simp only [List.take_succ_cons, List.take_zero, List.drop_succ_cons, List.drop_zero]
        refine jtz ?_
        refine jtz ?_
        refine jtz ?_
        refine jtz ?_
        refine jtz ?_
        refine jtz ?_
        refine jtz ?_
        refine jty (y_add_u64 rfl rfl) ?_
        refine jty (y_max rfl rfl) ?_
        refine jtz ?_
        refine jtz ?_
        refine jt_nil ?_
        refine jst ?_
        refine jnt ?_
        refine jsr ?_
        refine jz ?_
        refine jnt ?_
        refine jc_ret ?_
        refine jq_ret1 rfl rfl ?_
        exact fun w' hw => by
         have hm := (of_decide_eq_true (show mayO ⟨ch, cl, nx, l⟩ o = true by assumption)).2
         obtain ⟨hm1, hm2, _⟩ := hm
         have e0 : putE ⟨ch, cl, nx, l⟩ o = 0 := by
          unfold putE
          rw [if_pos (show mayO ⟨ch, cl, nx, l⟩ o = true by assumption)]
          show (if 0 ≤ findL l o.serial then (7 : Int) else roomE l (if o.taken = true then 0 else o.face)) = _
          rw [if_neg (by omega)]
          first | rw [if_pos (show o.taken = true by assumption)] | rw [if_neg (show ¬ o.taken = true by rw [show o.taken = false by assumption]; decide)]
          exact Decidable.not_not.1 (by assumption)
         have e : putB ⟨ch, cl, nx, l⟩ o = ⟨ch, cl, max nx (o.serial + 1), l ++ [o]⟩ := if_pos e0
         rw [e, e0]
         have hw2 := hw.cast (H' := [.row a36 (l.length + 1) c36 33 9 ((l ++ [o]).flatMap Of.c), .cells b3 (Of.c o), .cells b [.string ch, .string cl, .int .u64 (max nx (o.serial + 1)), .slice a36 (l.length + 1) c36]]) (by rw [List.flatMap_append, show (o.serial + 1) % 18446744073709551616 = o.serial + 1 by omega] <;> rfl)
         refine ⟨(a36, c36), rfl, ?_, RowT.new hw2 (by rw [List.length_append] <;> rfl) (.tail _ (.head _)) rfl⟩
         show Upd w w' _ (.cells b [.string ch, .string cl, .int .u64 (max nx (o.serial + 1)), .slice a36 (l ++ [o]).length c36])
         rw [List.length_append]
         exact (hw2.part (.cons del2 .nil)).updd rfl
       ·skip
        refine jf_m (by intros; rename_i h; first | exact h | exact h.pop | exact h.pop.pop | exact h.pop.pop.pop | exact h.pop.pop.pop.pop | exact h.pop.pop.pop.pop.pop | exact h.pop.pop.pop.pop.pop.pop | exact h.part .nil) rfl rfl (by decide) rfl (m_buildSlice (size := 9) (by decide) (Built.agg rfl rfl rfl (by repeat constructor) Built.nil)) (fun b35 => ?_)
        refine jf_fcall (by intros; rename_i h; first | exact h | exact h.pop | exact h.pop.pop | exact h.pop.pop.pop | exact h.pop.pop.pop.pop | exact h.pop.pop.pop.pop.pop | exact h.pop.pop.pop.pop.pop.pop | exact h.part .nil) rfl rfl (by decide) rfl (goes_func rfl) (fun w1 hw1 => cloneOf_any ad c l w1 (by omega) (hE1.keep hw1).el) (fun ⟨a29, c29⟩ => ?_)
        refine jf_m2 (by intros; rename_i h; first | exact h | exact h.pop | exact h.pop.pop | exact h.pop.pop.pop | exact h.pop.pop.pop.pop | exact h.pop.pop.pop.pop.pop | exact h.pop.pop.pop.pop.pop.pop | exact h.part .nil) rfl rfl (by decide) rfl (m_append rfl rfl (by first | exact del0 | exact del1 | exact del2 | exact del3 | exact del4) (by first | exact del0 | exact del1 | exact del2 | exact del3 | exact del4) rfl (by omega) (by omega)) (fun a36 c36 => ?_)
        first | refine jf_take rfl rfl (by decide) rfl (y_nilCheck rfl) ?_ | refine jf_take rfl rfl (by decide) rfl (y_nilCheck_func rfl) ?_
        refine jf_take rfl rfl (by decide) rfl (y_fieldAddr rfl) ?_
        refine jf_nil ?_
        refine jst ?_
        refine jnt ?_
        refine jc_seq ?_
        refine jc_tail 11 (by kernel_rfl) (fun _ h => h.drew) ?_
        simp only [List.take_succ_cons, List.take_zero, List.drop_succ_cons, List.drop_zero]
        refine jtz ?_
        refine jtz ?_
        refine jtz ?_
        refine jtz ?_
        refine jtz ?_
        refine jtz ?_
        refine jtz ?_
        refine jty (y_add_u64 rfl rfl) ?_
        refine jty (y_max rfl rfl) ?_
        refine jtz ?_
        refine jtz ?_
        refine jt_nil ?_
        refine jst ?_
        refine jnt ?_
        refine jsr ?_
        refine jz ?_
        refine jnt ?_
        refine jc_ret ?_
        refine jq_ret1 rfl rfl ?_
        exact fun w' hw => by
         have hm := (of_decide_eq_true (show mayO ⟨ch, cl, nx, l⟩ o = true by assumption)).2
         obtain ⟨hm1, hm2, _⟩ := hm
         have e0 : putE ⟨ch, cl, nx, l⟩ o = 0 := by
          unfold putE
          rw [if_pos (show mayO ⟨ch, cl, nx, l⟩ o = true by assumption)]
          show (if 0 ≤ findL l o.serial then (7 : Int) else roomE l (if o.taken = true then 0 else o.face)) = _
          rw [if_neg (by omega)]
          first | rw [if_pos (show o.taken = true by assumption)] | rw [if_neg (show ¬ o.taken = true by rw [show o.taken = false by assumption]; decide)]
          exact Decidable.not_not.1 (by assumption)
         have e : putB ⟨ch, cl, nx, l⟩ o = ⟨ch, cl, max nx (o.serial + 1), l ++ [o]⟩ := if_pos e0
         rw [e, e0]
         have hw2 := hw.cast (H' := [.row a36 (l.length + 1) c36 33 9 ((l ++ [o]).flatMap Of.c), .cells b3 (Of.c o), .cells b [.string ch, .string cl, .int .u64 (max nx (o.serial + 1)), .slice a36 (l.length + 1) c36]]) (by rw [List.flatMap_append, show (o.serial + 1) % 18446744073709551616 = o.serial + 1 by omega] <;> rfl)
         refine ⟨(a36, c36), rfl, ?_, RowT.new hw2 (by rw [List.length_append] <;> rfl) (.tail _ (.head _)) rfl⟩
         show Upd w w' _ (.cells b [.string ch, .string cl, .int .u64 (max nx (o.serial + 1)), .slice a36 (l ++ [o]).length c36])
         rw [List.length_append]
         exact (hw2.part (.cons del2 .nil)).updd rfl
       )
    )
 ·skip
  refine jz ?_
  refine jz ?_
  refine jnt ?_
  refine jc_true rfl ?_
  refine jsr ?_
  refine jz ?_
  refine jnt ?_
  refine jc_ret ?_
  refine jq_block_ret ?_
  refine jq_then_ret ?_
  refine jq_ret1 rfl rfl ?_
  exact fun w' hw => by
   have e : putB ⟨ch, cl, nx, l⟩ o = ⟨ch, cl, nx, l⟩ ∧ putE ⟨ch, cl, nx, l⟩ o = (1 : Int) := by
    have e0 : putE ⟨ch, cl, nx, l⟩ o = (1 : Int) := by unfold putE; rw [if_neg (by rw [show mayO ⟨ch, cl, nx, l⟩ o = false by assumption]; decide)]
    have hn : ¬ (1 : Int) = 0 := by first | decide | assumption
    exact ⟨by unfold putB; rw [if_neg (by rw [e0]; exact hn)], e0⟩
   rw [e.1, e.2]
   exact ⟨(ad, c), rfl, (hw.part (F := [.cells b [.string ch, .string cl, .int .u64 nx, .slice ad l.length c]]) (.cons del1 .nil)).updd rfl, .inl ⟨rfl, rfl⟩⟩

theorem lmake_any (b : Nat) (ch cl : ByteArray) (nx : Int) (ad : Option Addr) (l : List Of) (c : Nat) (w : World) (hl : l.length ≤ 1000) (hA : HA.ok w (.cells b [.string ch, .string cl, .int .u64 nx, .slice ad l.length c])) (hE1 : ElO w [b] ad 9 (l.map Of.c)) (face wins many : Int) (salt : ByteArray) (raw : Int) (h1 : fits .u64 face) (h2 : fits .u64 wins) (h3 : fits .u64 many) (h4 : fits .u64 raw) (hsz : salt.size ≤ 1000000) (hlf : ∀ x ∈ l, fits .u64 x.face) (hnx : fits .u64 nx) :
  Calls Try.prog 11 #[.pointer (some ⟨b, 0, none⟩), .int .u64 face, .int .u64 wins, .int .u64 many, .string salt, .int .u64 raw] w fun e w' => ∃ pr : Option Addr × Nat, e = .returned (.tuple #[.agg (Of.c (makeO ⟨ch, cl, nx, l⟩ face wins many salt raw)).toArray, .int .i64 (makeE ⟨ch, cl, nx, l⟩ face wins many salt raw)]) ∧ Upd w w' (.cells b [.string ch, .string cl, .int .u64 nx, .slice ad l.length c]) (Bk.h (makeB ⟨ch, cl, nx, l⟩ face wins many salt raw) b pr.1 pr.2) ∧ RowT w w' (ad, c) pr l ((makeB ⟨ch, cl, nx, l⟩ face wins many salt raw)).l := by
 refine calls_of (n := 97) (E := [(0, .pointer (some ⟨b, 0, none⟩)), (1, .int .u64 face), (2, .int .u64 wins), (3, .int .u64 many), (4, .string salt), (5, .int .u64 raw)]) (W := Hp w [b] [.cells b [.string ch, .string cl, .int .u64 nx, .slice ad l.length c]]) Try.func11 rfl rfl (Nat.le_of_ble_eq_true rfl) rfl (Hp.start rfl hA) ?_
 refine jsr ?_
 refine jl_m rfl (by decide) rfl (m_alloc) (fun b12 => ?_)
 refine jz ?_
 refine jnt ?_
 refine jsr ?_
 refine jz ?_
 refine jz ?_
 refine jz ?_
 refine jpc (goes_func rfl) (fun w1 hw1 => nominal_any _ _ _ w1 h1 h2 h3) ?_
 refine jz ?_
 refine jz ?_
 refine jz ?_
 refine jz ?_
 refine jz ?_
 refine jnt ?_
 refine jsr ?_
 refine jz ?_
 refine jz ?_
 refine jpc (goes_func rfl) (fun w1 hw1 => fair_any _ _ w1 h4 h3) ?_
 refine jz ?_
 refine jz ?_
 refine jz ?_
 refine jz ?_
 refine jz ?_
 refine jnt ?_
 refine jc_seq ?_
 refine jc_block ?_
 refine jsr ?_
 refine jz ?_
 refine jy (y_len_str rfl) ?_
 refine jy (y_gtr rfl rfl) ?_
 refine jl_prop (fun h36 => ?_) (fun h36 => ?_)
 ·first
  | (exfalso; omega)
  | (
   refine jz ?_
   refine jsk ?_
   refine jsk ?_
   refine jy (y_pick_true rfl rfl) ?_
   refine jz ?_
   refine jsk ?_
   refine jsk ?_
   refine jy (y_pick_true rfl rfl) ?_
   refine jz ?_
   refine jnt ?_
   refine jc_true rfl ?_
   refine jsr ?_
   refine jy (y_build Built.nil) ?_
   refine jst ?_
   refine jz ?_
   refine jnt ?_
   refine jc_ret ?_
   refine jq_block_ret ?_
   refine jq_then_ret ?_
   refine jq_res (.inl rfl) rfl (.cell rfl (by first | exact ld_agg (by first | exact mem0 | exact mem1 | exact mem2 | exact mem3 | exact mem4 | exact mem5) (by repeat constructor) | exact ld_agg (by first | exact mem0 | exact mem1 | exact mem2 | exact mem3 | exact mem4 | exact mem5) (by assumption)) (.tmp rfl .nil)) ?_
   exact fun w' hw => by
    have e0 : makeE ⟨ch, cl, nx, l⟩ face wins many salt raw = (1 : Int) := by
     have eo : offE face wins many salt raw = 1 := if_pos (by omega)
     unfold makeE; rw [eo, if_neg (by decide)]
    have hn : ¬ (1 : Int) = 0 := by first | decide | assumption
    have e1 : makeB ⟨ch, cl, nx, l⟩ face wins many salt raw = ⟨ch, cl, nx, l⟩ := if_neg (by rw [e0]; exact hn)
    have e2 : makeO ⟨ch, cl, nx, l⟩ face wins many salt raw = of0 := if_neg (by rw [e0]; exact hn)
    rw [e1, e2, e0]
    exact ⟨(ad, c), rfl, (hw.part (F := [.cells b [.string ch, .string cl, .int .u64 nx, .slice ad l.length c]]) (.cons del1 .nil)).updd rfl, .inl ⟨rfl, rfl⟩⟩
   )
 ·first
  | (exfalso; omega)
  | (
   refine jz ?_
   refine jz ?_
   refine jy (y_eql rfl rfl) ?_
   refine jl_prop (fun h39 => ?_) (fun h39 => ?_)
   ·first
    | (exfalso; omega)
    | (
     refine jy (y_pick_false rfl rfl) ?_
     refine jz ?_
     refine jsk ?_
     refine jsk ?_
     refine jy (y_pick_true rfl rfl) ?_
     refine jz ?_
     refine jnt ?_
     refine jc_true rfl ?_
     refine jsr ?_
     refine jy (y_build Built.nil) ?_
     refine jst ?_
     refine jz ?_
     refine jnt ?_
     refine jc_ret ?_
     refine jq_block_ret ?_
     refine jq_then_ret ?_
     refine jq_res (.inl rfl) rfl (.cell rfl (by first | exact ld_agg (by first | exact mem0 | exact mem1 | exact mem2 | exact mem3 | exact mem4 | exact mem5) (by repeat constructor) | exact ld_agg (by first | exact mem0 | exact mem1 | exact mem2 | exact mem3 | exact mem4 | exact mem5) (by assumption)) (.tmp rfl .nil)) ?_
     exact fun w' hw => by
      have e0 : makeE ⟨ch, cl, nx, l⟩ face wins many salt raw = (1 : Int) := by
       have eo : offE face wins many salt raw = 1 := if_pos (by omega)
       unfold makeE; rw [eo, if_neg (by decide)]
      have hn : ¬ (1 : Int) = 0 := by first | decide | assumption
      have e1 : makeB ⟨ch, cl, nx, l⟩ face wins many salt raw = ⟨ch, cl, nx, l⟩ := if_neg (by rw [e0]; exact hn)
      have e2 : makeO ⟨ch, cl, nx, l⟩ face wins many salt raw = of0 := if_neg (by rw [e0]; exact hn)
      rw [e1, e2, e0]
      exact ⟨(ad, c), rfl, (hw.part (F := [.cells b [.string ch, .string cl, .int .u64 nx, .slice ad l.length c]]) (.cons del1 .nil)).updd rfl, .inl ⟨rfl, rfl⟩⟩
     )
   ·first
    | (exfalso; omega)
    | (
     refine jy (y_pick_false rfl rfl) ?_
     refine jz ?_
     refine jz ?_
     refine jy (y_eql rfl rfl) ?_
     refine jl_prop (fun h43 => ?_) (fun h43 => ?_)
     ·first
      | (exfalso; omega)
      | (
       refine jy (y_pick_false rfl rfl) ?_
       refine jz ?_
       refine jnt ?_
       refine jc_true rfl ?_
       refine jsr ?_
       refine jy (y_build Built.nil) ?_
       refine jst ?_
       refine jz ?_
       refine jnt ?_
       refine jc_ret ?_
       refine jq_block_ret ?_
       refine jq_then_ret ?_
       refine jq_res (.inl rfl) rfl (.cell rfl (by first | exact ld_agg (by first | exact mem0 | exact mem1 | exact mem2 | exact mem3 | exact mem4 | exact mem5) (by repeat constructor) | exact ld_agg (by first | exact mem0 | exact mem1 | exact mem2 | exact mem3 | exact mem4 | exact mem5) (by assumption)) (.tmp rfl .nil)) ?_
       exact fun w' hw => by
        have e0 : makeE ⟨ch, cl, nx, l⟩ face wins many salt raw = (1 : Int) := by
         have eo : offE face wins many salt raw = 1 := if_pos (by omega)
         unfold makeE; rw [eo, if_neg (by decide)]
        have hn : ¬ (1 : Int) = 0 := by first | decide | assumption
        have e1 : makeB ⟨ch, cl, nx, l⟩ face wins many salt raw = ⟨ch, cl, nx, l⟩ := if_neg (by rw [e0]; exact hn)
        have e2 : makeO ⟨ch, cl, nx, l⟩ face wins many salt raw = of0 := if_neg (by rw [e0]; exact hn)
        rw [e1, e2, e0]
        exact ⟨(ad, c), rfl, (hw.part (F := [.cells b [.string ch, .string cl, .int .u64 nx, .slice ad l.length c]]) (.cons del1 .nil)).updd rfl, .inl ⟨rfl, rfl⟩⟩
       )
     ·first
      | (exfalso; omega)
      | (
       refine jy (y_pick_false rfl rfl) ?_
       refine jz ?_
       refine jnt ?_
       refine jc_false rfl ?_
       refine jsr ?_
       refine jz ?_
       refine jy (y_neq rfl rfl) ?_
       refine jl_prop (fun h48 => ?_) (fun h48 => ?_)
       ·first
        | (exfalso; omega)
        | (
         refine jz ?_
         refine jsk ?_
         refine jsk ?_
         refine jy (y_pick_true rfl rfl) ?_
         refine jz ?_
         refine jnt ?_
         refine jc_true rfl ?_
         refine jsr ?_
         refine jy (y_build Built.nil) ?_
         refine jst ?_
         refine jz ?_
         refine jnt ?_
         refine jc_ret ?_
         refine jq_block_ret ?_
         refine jq_then_ret ?_
         refine jq_res (.inl rfl) rfl (.cell rfl (by first | exact ld_agg (by first | exact mem0 | exact mem1 | exact mem2 | exact mem3 | exact mem4 | exact mem5) (by repeat constructor) | exact ld_agg (by first | exact mem0 | exact mem1 | exact mem2 | exact mem3 | exact mem4 | exact mem5) (by assumption)) (.tmp rfl .nil)) ?_
         exact fun w' hw => by
          have e0 : makeE ⟨ch, cl, nx, l⟩ face wins many salt raw = (4 : Int) := by
           have eo : offE face wins many salt raw = 4 := by unfold offE; rw [if_neg (by omega), if_pos (by omega)]
           unfold makeE; rw [eo, if_neg (by decide)]
          have hn : ¬ (4 : Int) = 0 := by first | decide | assumption
          have e1 : makeB ⟨ch, cl, nx, l⟩ face wins many salt raw = ⟨ch, cl, nx, l⟩ := if_neg (by rw [e0]; exact hn)
          have e2 : makeO ⟨ch, cl, nx, l⟩ face wins many salt raw = of0 := if_neg (by rw [e0]; exact hn)
          rw [e1, e2, e0]
          exact ⟨(ad, c), rfl, (hw.part (F := [.cells b [.string ch, .string cl, .int .u64 nx, .slice ad l.length c]]) (.cons del1 .nil)).updd rfl, .inl ⟨rfl, rfl⟩⟩
         )
       ·first
        | (exfalso; omega)
        | (
         refine jz ?_
         refine jz ?_
         refine jy (y_neq rfl rfl) ?_
         refine jl_prop (fun h51 => ?_) (fun h51 => ?_)
         ·first
          | (exfalso; omega)
          | (
           refine jy (y_pick_false rfl rfl) ?_
           refine jz ?_
           refine jnt ?_
           refine jc_true rfl ?_
           refine jsr ?_
           refine jy (y_build Built.nil) ?_
           refine jst ?_
           refine jz ?_
           refine jnt ?_
           refine jc_ret ?_
           refine jq_block_ret ?_
           refine jq_then_ret ?_
           refine jq_res (.inl rfl) rfl (.cell rfl (by first | exact ld_agg (by first | exact mem0 | exact mem1 | exact mem2 | exact mem3 | exact mem4 | exact mem5) (by repeat constructor) | exact ld_agg (by first | exact mem0 | exact mem1 | exact mem2 | exact mem3 | exact mem4 | exact mem5) (by assumption)) (.tmp rfl .nil)) ?_
           exact fun w' hw => by
            have e0 : makeE ⟨ch, cl, nx, l⟩ face wins many salt raw = (4 : Int) := by
             have eo : offE face wins many salt raw = 4 := by unfold offE; rw [if_neg (by omega), if_pos (by omega)]
             unfold makeE; rw [eo, if_neg (by decide)]
            have hn : ¬ (4 : Int) = 0 := by first | decide | assumption
            have e1 : makeB ⟨ch, cl, nx, l⟩ face wins many salt raw = ⟨ch, cl, nx, l⟩ := if_neg (by rw [e0]; exact hn)
            have e2 : makeO ⟨ch, cl, nx, l⟩ face wins many salt raw = of0 := if_neg (by rw [e0]; exact hn)
            rw [e1, e2, e0]
            exact ⟨(ad, c), rfl, (hw.part (F := [.cells b [.string ch, .string cl, .int .u64 nx, .slice ad l.length c]]) (.cons del1 .nil)).updd rfl, .inl ⟨rfl, rfl⟩⟩
           )
         ·first
          | (exfalso; omega)
          | (
           refine jy (y_pick_false rfl rfl) ?_
           refine jz ?_
           refine jnt ?_
           refine jc_false rfl ?_
           refine jc_skip ?_
           refine jq_block ?_
           refine jq_then ?_
           refine jc_seq ?_
           refine jsr ?_
           refine jz ?_
           refine jz ?_
           refine jpc (goes_func rfl) (fun w1 hw1 => lroom_any b ad l c w1 hl (CellAt.of_cells (hw1.get (A := .cells b [.string ch, .string cl, .int .u64 nx, .slice ad l.length c]) mem1) rfl) (hE1.keep hw1).el hlf _ h1) ?_
           refine jz ?_
           refine jnt ?_
           refine jsr ?_
           refine jz ?_
           refine jy (y_neq rfl rfl) ?_
           refine jl_prop (fun h58 => ?_) (fun h58 => ?_)
           ·first
            | (exfalso; omega)
            | (
             refine jnt ?_
             refine jc_true rfl ?_
             refine jsr ?_
             refine jy (y_build Built.nil) ?_
             refine jz ?_
             refine jst ?_
             refine jz ?_
             refine jnt ?_
             refine jc_ret ?_
             refine jq_then_ret ?_
             refine jq_res (.inl rfl) rfl (.cell rfl (by first | exact ld_agg (by first | exact mem0 | exact mem1 | exact mem2 | exact mem3 | exact mem4 | exact mem5) (by repeat constructor) | exact ld_agg (by first | exact mem0 | exact mem1 | exact mem2 | exact mem3 | exact mem4 | exact mem5) (by assumption)) (.tmp rfl .nil)) ?_
             exact fun w' hw => by
              have e0 : makeE ⟨ch, cl, nx, l⟩ face wins many salt raw = roomE l face := by
               have eo : offE face wins many salt raw = 0 := by unfold offE; rw [if_neg (by omega), if_neg (by omega)]
               unfold makeE; rw [eo, if_pos rfl]
              have hn : ¬ roomE l face = 0 := by first | decide | assumption
              have e1 : makeB ⟨ch, cl, nx, l⟩ face wins many salt raw = ⟨ch, cl, nx, l⟩ := if_neg (by rw [e0]; exact hn)
              have e2 : makeO ⟨ch, cl, nx, l⟩ face wins many salt raw = of0 := if_neg (by rw [e0]; exact hn)
              rw [e1, e2, e0]
              exact ⟨(ad, c), rfl, (hw.part (F := [.cells b [.string ch, .string cl, .int .u64 nx, .slice ad l.length c]]) (.cons del1 .nil)).updd rfl, .inl ⟨rfl, rfl⟩⟩
             )
           ·first
            | (exfalso; omega)
            | (
             refine jnt ?_
             refine jc_false rfl ?_
             refine jc_skip ?_
             refine jq_then ?_
             refine jc_seq ?_
             have hfr := fairV_fits raw many h4
             refine jc_tree 18 (.step 0 true (.step 1 true (.step 2 true (.step 3 true (.step 4 true (.step 5 true (.step 6 true (.step 7 true (.step 8 true (.step 9 true (.step 10 true (.step 11 true (.step 12 true (.step 14 true (.step 15 true (.fork 13 (.step 16 true (.step 17 false .nil)) 17 (.step 13 false (.step 16 true .nil)))))))))))))))))) (by kernel_rfl) (fun _ _ _ _ h => h) (fun _ h => h.drew) ?_
             simp only [List.drop_succ_cons, List.drop_zero]
             refine jf_take rfl rfl (by decide) rfl (y_move rfl) ?_
             first | refine jf_take rfl rfl (by decide) rfl (y_nilCheck rfl) ?_ | refine jf_take rfl rfl (by decide) rfl (y_nilCheck_func rfl) ?_
             refine jf_take rfl rfl (by decide) rfl (y_fieldAddr rfl) ?_
             first | refine jf_take rfl rfl (by decide) rfl (y_load rfl (by first | exact mem0 | exact mem1 | exact mem2 | exact mem3 | exact mem4 | exact mem5) rfl) ?_ | refine jf_take rfl rfl (by decide) rfl (y_load_row rfl (by first | exact mem0 | exact mem1 | exact mem2 | exact mem3 | exact mem4 | exact mem5) rfl) ?_ | refine jf_take rfl rfl (by decide) rfl (y_load_old rfl (by assumption) (by simp)) ?_
             refine jf_take rfl rfl (by decide) rfl (y_move rfl) ?_
             first | refine jf_take rfl rfl (by decide) rfl (y_nilCheck rfl) ?_ | refine jf_take rfl rfl (by decide) rfl (y_nilCheck_func rfl) ?_
             refine jf_take rfl rfl (by decide) rfl (y_fieldAddr rfl) ?_
             first | refine jf_take rfl rfl (by decide) rfl (y_load rfl (by first | exact mem0 | exact mem1 | exact mem2 | exact mem3 | exact mem4 | exact mem5) rfl) ?_ | refine jf_take rfl rfl (by decide) rfl (y_load_row rfl (by first | exact mem0 | exact mem1 | exact mem2 | exact mem3 | exact mem4 | exact mem5) rfl) ?_ | refine jf_take rfl rfl (by decide) rfl (y_load_old rfl (by assumption) (by simp)) ?_
             refine jf_take rfl rfl (by decide) rfl (y_move rfl) ?_
             refine jf_take rfl rfl (by decide) rfl (y_move rfl) ?_
             refine jf_take rfl rfl (by decide) rfl (y_move rfl) ?_
             refine jf_take rfl rfl (by decide) rfl (y_move rfl) ?_
             refine jf_take rfl rfl (by decide) rfl (y_move rfl) ?_
             refine jf_take rfl rfl (by decide) rfl (y_move rfl) ?_
             refine jf_take rfl rfl (by decide) rfl (y_move rfl) ?_
             refine jf_fork ?_ ?_
             ·skip
              refine jf_pcall (by intro _ h; first | exact h | exact h.pop | exact h.pop.pop | exact h.pop.pop.pop | exact h.pop.pop.pop.pop | exact h.pop.pop.pop.pop.pop | exact h.pop.pop.pop.pop.pop.pop | exact h.part .nil) rfl rfl (by decide) rfl (goes_func rfl) (fun w1 hw1 => pcall hw1 (commit_any _ _ w1 (by omega) hfr)) ?_
              refine jf_take rfl rfl (by decide) rfl (y_build (Built.cell rfl rfl rfl (by repeat constructor) (Built.cell rfl rfl rfl (by repeat constructor) (Built.cell rfl rfl rfl (by repeat constructor) (Built.cell rfl rfl rfl (by repeat constructor) (Built.cell rfl rfl rfl (by repeat constructor) (Built.cell rfl rfl rfl (by repeat constructor) (Built.cell rfl rfl rfl (by repeat constructor) (Built.cell rfl rfl rfl (by repeat constructor) (Built.cell rfl rfl rfl (by repeat constructor) Built.nil)))))))))) ?_
              refine jf_m (by intros; rename_i h; first | exact h | exact h.pop | exact h.pop.pop | exact h.pop.pop.pop | exact h.pop.pop.pop.pop | exact h.pop.pop.pop.pop.pop | exact h.pop.pop.pop.pop.pop.pop | exact h.part .nil) rfl rfl (by decide) rfl (m_alloc) (fun b19 => ?_)
              refine jf_nil ?_
              refine jst ?_
              refine jnt ?_
              refine jsr ?_
              refine jz ?_
              refine jz ?_
              refine jz ?_
              refine jz ?_
              refine jy (y_add_u64 rfl rfl) ?_
              refine jz ?_
              refine jz ?_
              refine jst ?_
              refine jnt ?_
              refine jc_seq ?_
              refine jc_tree 11 (.step 0 true (.step 1 true (.step 2 true (.step 3 true (.step 4 true (.step 6 true (.fork 5 (.step 7 false (.step 8 false (.step 9 true (.step 10 true .nil)))) 7 (.step 5 false (.step 8 false (.step 9 true (.step 10 true .nil))))))))))) (by kernel_rfl) (fun _ _ _ _ h => h) (fun _ h => h.drew) ?_
              simp only [List.drop_succ_cons, List.drop_zero]
              refine jf_take rfl rfl (by decide) rfl (y_move rfl) ?_
              refine jf_take rfl rfl (by decide) rfl (y_move rfl) ?_
              first | refine jf_take rfl rfl (by decide) rfl (y_nilCheck rfl) ?_ | refine jf_take rfl rfl (by decide) rfl (y_nilCheck_func rfl) ?_
              refine jf_take rfl rfl (by decide) rfl (y_fieldAddr rfl) ?_
              first | refine jf_take rfl rfl (by decide) rfl (y_load rfl (by first | exact mem0 | exact mem1 | exact mem2 | exact mem3 | exact mem4 | exact mem5) rfl) ?_ | refine jf_take rfl rfl (by decide) rfl (y_load_row rfl (by first | exact mem0 | exact mem1 | exact mem2 | exact mem3 | exact mem4 | exact mem5) rfl) ?_ | refine jf_take rfl rfl (by decide) rfl (y_load_old rfl (by assumption) (by simp)) ?_
              first | refine jf_take rfl rfl (by decide) rfl (y_loadAgg rfl (by first | exact mem0 | exact mem1 | exact mem2 | exact mem3 | exact mem4 | exact mem5) (by repeat constructor)) ?_ | refine jf_take rfl rfl (by decide) rfl (y_loadAgg_row rfl (by first | exact mem0 | exact mem1 | exact mem2 | exact mem3 | exact mem4 | exact mem5) rfl (by assumption)) ?_ | refine jf_take rfl rfl (by decide) rfl (y_loadAgg_old rfl rfl (by assumption) (by simp)) ?_
              refine jf_fork ?_ ?_
              ·skip
               refine jf_fcall (by intros; rename_i h; first | exact h | exact h.pop | exact h.pop.pop | exact h.pop.pop.pop | exact h.pop.pop.pop.pop | exact h.pop.pop.pop.pop.pop | exact h.pop.pop.pop.pop.pop.pop | exact h.part .nil) rfl rfl (by decide) rfl (goes_func rfl) (fun w1 hw1 => cloneOf_any ad c l w1 (by omega) (hE1.keep hw1).el) (fun ⟨a90, c90⟩ => ?_)
               refine jf_m (by intros; rename_i h; first | exact h | exact h.pop | exact h.pop.pop | exact h.pop.pop.pop | exact h.pop.pop.pop.pop | exact h.pop.pop.pop.pop.pop | exact h.pop.pop.pop.pop.pop.pop | exact h.part .nil) rfl rfl (by decide) rfl (m_buildSlice (size := 9) (by decide) (Built.agg rfl rfl rfl (by repeat constructor) Built.nil)) (fun b92 => ?_)
               refine jf_m2 (by intros; rename_i h; first | exact h | exact h.pop | exact h.pop.pop | exact h.pop.pop.pop | exact h.pop.pop.pop.pop | exact h.pop.pop.pop.pop.pop | exact h.pop.pop.pop.pop.pop.pop | exact h.part .nil) rfl rfl (by decide) rfl (m_append rfl rfl (by first | exact del0 | exact del1 | exact del2 | exact del3 | exact del4) (by first | exact del0 | exact del1 | exact del2 | exact del3 | exact del4) rfl (by omega) (by omega)) (fun a93 c93 => ?_)
               first | refine jf_take rfl rfl (by decide) rfl (y_nilCheck rfl) ?_ | refine jf_take rfl rfl (by decide) rfl (y_nilCheck_func rfl) ?_
               refine jf_take rfl rfl (by decide) rfl (y_fieldAddr rfl) ?_
               refine jf_nil ?_
               refine jst ?_
               refine jnt ?_
               refine jsr ?_
               refine jz ?_
               refine jst ?_
               refine jz ?_
               refine jnt ?_
               refine jc_ret ?_
               refine jq_res (.inl rfl) rfl (.cell rfl (by first | exact ld_agg (by first | exact mem0 | exact mem1 | exact mem2 | exact mem3 | exact mem4 | exact mem5) (by repeat constructor) | exact ld_agg (by first | exact mem0 | exact mem1 | exact mem2 | exact mem3 | exact mem4 | exact mem5) (by assumption)) (.tmp rfl .nil)) ?_
               exact fun w' hw => by
                have e0 : makeE ⟨ch, cl, nx, l⟩ face wins many salt raw = 0 := by
                 have eo : offE face wins many salt raw = 0 := by unfold offE; rw [if_neg (by omega), if_neg (by omega)]
                 unfold makeE; rw [eo, if_pos rfl]
                 exact Decidable.not_not.1 (by assumption)
                have e1 : makeB ⟨ch, cl, nx, l⟩ face wins many salt raw = ⟨ch, cl, (nx + 1) % 18446744073709551616, l ++ [newO ⟨ch, cl, nx, l⟩ face wins many salt raw]⟩ := if_pos e0
                have e2 : makeO ⟨ch, cl, nx, l⟩ face wins many salt raw = newO ⟨ch, cl, nx, l⟩ face wins many salt raw := if_pos e0
                rw [e1, e2, e0]
                have hw2 := hw.cast (H' := [.row a93 (l.length + 1) c93 33 9 ((l ++ [newO ⟨ch, cl, nx, l⟩ face wins many salt raw]).flatMap Of.c), .cells b19 (Of.c (newO ⟨ch, cl, nx, l⟩ face wins many salt raw)), .cells b12 (Of.c (newO ⟨ch, cl, nx, l⟩ face wins many salt raw)), .cells b [.string ch, .string cl, .int .u64 ((nx + 1) % 18446744073709551616), .slice a93 (l.length + 1) c93]]) (by rw [List.flatMap_append] <;> rfl)
                refine ⟨(a93, c93), rfl, ?_, RowT.new hw2 (by rw [List.length_append] <;> rfl) (.tail _ (.tail _ (.head _))) rfl⟩
                show Upd w w' _ (.cells b [.string ch, .string cl, .int .u64 ((nx + 1) % 18446744073709551616), .slice a93 (l ++ [newO ⟨ch, cl, nx, l⟩ face wins many salt raw]).length c93])
                rw [List.length_append]
                exact (hw2.part (.cons del3 .nil)).updd rfl
              ·skip
               refine jf_m (by intros; rename_i h; first | exact h | exact h.pop | exact h.pop.pop | exact h.pop.pop.pop | exact h.pop.pop.pop.pop | exact h.pop.pop.pop.pop.pop | exact h.pop.pop.pop.pop.pop.pop | exact h.part .nil) rfl rfl (by decide) rfl (m_buildSlice (size := 9) (by decide) (Built.agg rfl rfl rfl (by repeat constructor) Built.nil)) (fun b92 => ?_)
               refine jf_fcall (by intros; rename_i h; first | exact h | exact h.pop | exact h.pop.pop | exact h.pop.pop.pop | exact h.pop.pop.pop.pop | exact h.pop.pop.pop.pop.pop | exact h.pop.pop.pop.pop.pop.pop | exact h.part .nil) rfl rfl (by decide) rfl (goes_func rfl) (fun w1 hw1 => cloneOf_any ad c l w1 (by omega) (hE1.keep hw1).el) (fun ⟨a90, c90⟩ => ?_)
               refine jf_m2 (by intros; rename_i h; first | exact h | exact h.pop | exact h.pop.pop | exact h.pop.pop.pop | exact h.pop.pop.pop.pop | exact h.pop.pop.pop.pop.pop | exact h.pop.pop.pop.pop.pop.pop | exact h.part .nil) rfl rfl (by decide) rfl (m_append rfl rfl (by first | exact del0 | exact del1 | exact del2 | exact del3 | exact del4) (by first | exact del0 | exact del1 | exact del2 | exact del3 | exact del4) rfl (by omega) (by omega)) (fun a93 c93 => ?_)
               first | refine jf_take rfl rfl (by decide) rfl (y_nilCheck rfl) ?_ | refine jf_take rfl rfl (by decide) rfl (y_nilCheck_func rfl) ?_
               refine jf_take rfl rfl (by decide) rfl (y_fieldAddr rfl) ?_
               refine jf_nil ?_
               refine jst ?_
               refine jnt ?_
               refine jsr ?_
               refine jz ?_
               refine jst ?_
               refine jz ?_
               refine jnt ?_
               refine jc_ret ?_
               refine jq_res (.inl rfl) rfl (.cell rfl (by first | exact ld_agg (by first | exact mem0 | exact mem1 | exact mem2 | exact mem3 | exact mem4 | exact mem5) (by repeat constructor) | exact ld_agg (by first | exact mem0 | exact mem1 | exact mem2 | exact mem3 | exact mem4 | exact mem5) (by assumption)) (.tmp rfl .nil)) ?_
               exact fun w' hw => by
                have e0 : makeE ⟨ch, cl, nx, l⟩ face wins many salt raw = 0 := by
                 have eo : offE face wins many salt raw = 0 := by unfold offE; rw [if_neg (by omega), if_neg (by omega)]
                 unfold makeE; rw [eo, if_pos rfl]
                 exact Decidable.not_not.1 (by assumption)
                have e1 : makeB ⟨ch, cl, nx, l⟩ face wins many salt raw = ⟨ch, cl, (nx + 1) % 18446744073709551616, l ++ [newO ⟨ch, cl, nx, l⟩ face wins many salt raw]⟩ := if_pos e0
                have e2 : makeO ⟨ch, cl, nx, l⟩ face wins many salt raw = newO ⟨ch, cl, nx, l⟩ face wins many salt raw := if_pos e0
                rw [e1, e2, e0]
                have hw2 := hw.cast (H' := [.row a93 (l.length + 1) c93 33 9 ((l ++ [newO ⟨ch, cl, nx, l⟩ face wins many salt raw]).flatMap Of.c), .cells b19 (Of.c (newO ⟨ch, cl, nx, l⟩ face wins many salt raw)), .cells b12 (Of.c (newO ⟨ch, cl, nx, l⟩ face wins many salt raw)), .cells b [.string ch, .string cl, .int .u64 ((nx + 1) % 18446744073709551616), .slice a93 (l.length + 1) c93]]) (by rw [List.flatMap_append] <;> rfl)
                refine ⟨(a93, c93), rfl, ?_, RowT.new hw2 (by rw [List.length_append] <;> rfl) (.tail _ (.tail _ (.head _))) rfl⟩
                show Upd w w' _ (.cells b [.string ch, .string cl, .int .u64 ((nx + 1) % 18446744073709551616), .slice a93 (l ++ [newO ⟨ch, cl, nx, l⟩ face wins many salt raw]).length c93])
                rw [List.length_append]
                exact (hw2.part (.cons del3 .nil)).updd rfl
             ·skip
              refine jf_m (by intros; rename_i h; first | exact h | exact h.pop | exact h.pop.pop | exact h.pop.pop.pop | exact h.pop.pop.pop.pop | exact h.pop.pop.pop.pop.pop | exact h.pop.pop.pop.pop.pop.pop | exact h.part .nil) rfl rfl (by decide) rfl (m_alloc) (fun b19 => ?_)
              refine jf_pcall (by intro _ h; first | exact h | exact h.pop | exact h.pop.pop | exact h.pop.pop.pop | exact h.pop.pop.pop.pop | exact h.pop.pop.pop.pop.pop | exact h.pop.pop.pop.pop.pop.pop | exact h.part .nil) rfl rfl (by decide) rfl (goes_func rfl) (fun w1 hw1 => pcall hw1 (commit_any _ _ w1 (by omega) hfr)) ?_
              refine jf_take rfl rfl (by decide) rfl (y_build (Built.cell rfl rfl rfl (by repeat constructor) (Built.cell rfl rfl rfl (by repeat constructor) (Built.cell rfl rfl rfl (by repeat constructor) (Built.cell rfl rfl rfl (by repeat constructor) (Built.cell rfl rfl rfl (by repeat constructor) (Built.cell rfl rfl rfl (by repeat constructor) (Built.cell rfl rfl rfl (by repeat constructor) (Built.cell rfl rfl rfl (by repeat constructor) (Built.cell rfl rfl rfl (by repeat constructor) Built.nil)))))))))) ?_
              refine jf_nil ?_
              refine jst ?_
              refine jnt ?_
              refine jsr ?_
              refine jz ?_
              refine jz ?_
              refine jz ?_
              refine jz ?_
              refine jy (y_add_u64 rfl rfl) ?_
              refine jz ?_
              refine jz ?_
              refine jst ?_
              refine jnt ?_
              refine jc_seq ?_
              refine jc_tree 11 (.step 0 true (.step 1 true (.step 2 true (.step 3 true (.step 4 true (.step 6 true (.fork 5 (.step 7 false (.step 8 false (.step 9 true (.step 10 true .nil)))) 7 (.step 5 false (.step 8 false (.step 9 true (.step 10 true .nil))))))))))) (by kernel_rfl) (fun _ _ _ _ h => h) (fun _ h => h.drew) ?_
              simp only [List.drop_succ_cons, List.drop_zero]
              refine jf_take rfl rfl (by decide) rfl (y_move rfl) ?_
              refine jf_take rfl rfl (by decide) rfl (y_move rfl) ?_
              first | refine jf_take rfl rfl (by decide) rfl (y_nilCheck rfl) ?_ | refine jf_take rfl rfl (by decide) rfl (y_nilCheck_func rfl) ?_
              refine jf_take rfl rfl (by decide) rfl (y_fieldAddr rfl) ?_
              first | refine jf_take rfl rfl (by decide) rfl (y_load rfl (by first | exact mem0 | exact mem1 | exact mem2 | exact mem3 | exact mem4 | exact mem5) rfl) ?_ | refine jf_take rfl rfl (by decide) rfl (y_load_row rfl (by first | exact mem0 | exact mem1 | exact mem2 | exact mem3 | exact mem4 | exact mem5) rfl) ?_ | refine jf_take rfl rfl (by decide) rfl (y_load_old rfl (by assumption) (by simp)) ?_
              first | refine jf_take rfl rfl (by decide) rfl (y_loadAgg rfl (by first | exact mem0 | exact mem1 | exact mem2 | exact mem3 | exact mem4 | exact mem5) (by repeat constructor)) ?_ | refine jf_take rfl rfl (by decide) rfl (y_loadAgg_row rfl (by first | exact mem0 | exact mem1 | exact mem2 | exact mem3 | exact mem4 | exact mem5) rfl (by assumption)) ?_ | refine jf_take rfl rfl (by decide) rfl (y_loadAgg_old rfl rfl (by assumption) (by simp)) ?_
              refine jf_fork ?_ ?_
              ·skip
               refine jf_fcall (by intros; rename_i h; first | exact h | exact h.pop | exact h.pop.pop | exact h.pop.pop.pop | exact h.pop.pop.pop.pop | exact h.pop.pop.pop.pop.pop | exact h.pop.pop.pop.pop.pop.pop | exact h.part .nil) rfl rfl (by decide) rfl (goes_func rfl) (fun w1 hw1 => cloneOf_any ad c l w1 (by omega) (hE1.keep hw1).el) (fun ⟨a90, c90⟩ => ?_)
               refine jf_m (by intros; rename_i h; first | exact h | exact h.pop | exact h.pop.pop | exact h.pop.pop.pop | exact h.pop.pop.pop.pop | exact h.pop.pop.pop.pop.pop | exact h.pop.pop.pop.pop.pop.pop | exact h.part .nil) rfl rfl (by decide) rfl (m_buildSlice (size := 9) (by decide) (Built.agg rfl rfl rfl (by repeat constructor) Built.nil)) (fun b92 => ?_)
               refine jf_m2 (by intros; rename_i h; first | exact h | exact h.pop | exact h.pop.pop | exact h.pop.pop.pop | exact h.pop.pop.pop.pop | exact h.pop.pop.pop.pop.pop | exact h.pop.pop.pop.pop.pop.pop | exact h.part .nil) rfl rfl (by decide) rfl (m_append rfl rfl (by first | exact del0 | exact del1 | exact del2 | exact del3 | exact del4) (by first | exact del0 | exact del1 | exact del2 | exact del3 | exact del4) rfl (by omega) (by omega)) (fun a93 c93 => ?_)
               first | refine jf_take rfl rfl (by decide) rfl (y_nilCheck rfl) ?_ | refine jf_take rfl rfl (by decide) rfl (y_nilCheck_func rfl) ?_
               refine jf_take rfl rfl (by decide) rfl (y_fieldAddr rfl) ?_
               refine jf_nil ?_
               refine jst ?_
               refine jnt ?_
               refine jsr ?_
               refine jz ?_
               refine jst ?_
               refine jz ?_
               refine jnt ?_
               refine jc_ret ?_
               refine jq_res (.inl rfl) rfl (.cell rfl (by first | exact ld_agg (by first | exact mem0 | exact mem1 | exact mem2 | exact mem3 | exact mem4 | exact mem5) (by repeat constructor) | exact ld_agg (by first | exact mem0 | exact mem1 | exact mem2 | exact mem3 | exact mem4 | exact mem5) (by assumption)) (.tmp rfl .nil)) ?_
               exact fun w' hw => by
                have e0 : makeE ⟨ch, cl, nx, l⟩ face wins many salt raw = 0 := by
                 have eo : offE face wins many salt raw = 0 := by unfold offE; rw [if_neg (by omega), if_neg (by omega)]
                 unfold makeE; rw [eo, if_pos rfl]
                 exact Decidable.not_not.1 (by assumption)
                have e1 : makeB ⟨ch, cl, nx, l⟩ face wins many salt raw = ⟨ch, cl, (nx + 1) % 18446744073709551616, l ++ [newO ⟨ch, cl, nx, l⟩ face wins many salt raw]⟩ := if_pos e0
                have e2 : makeO ⟨ch, cl, nx, l⟩ face wins many salt raw = newO ⟨ch, cl, nx, l⟩ face wins many salt raw := if_pos e0
                rw [e1, e2, e0]
                have hw2 := hw.cast (H' := [.row a93 (l.length + 1) c93 33 9 ((l ++ [newO ⟨ch, cl, nx, l⟩ face wins many salt raw]).flatMap Of.c), .cells b19 (Of.c (newO ⟨ch, cl, nx, l⟩ face wins many salt raw)), .cells b12 (Of.c (newO ⟨ch, cl, nx, l⟩ face wins many salt raw)), .cells b [.string ch, .string cl, .int .u64 ((nx + 1) % 18446744073709551616), .slice a93 (l.length + 1) c93]]) (by rw [List.flatMap_append] <;> rfl)
                refine ⟨(a93, c93), rfl, ?_, RowT.new hw2 (by rw [List.length_append] <;> rfl) (.tail _ (.tail _ (.head _))) rfl⟩
                show Upd w w' _ (.cells b [.string ch, .string cl, .int .u64 ((nx + 1) % 18446744073709551616), .slice a93 (l ++ [newO ⟨ch, cl, nx, l⟩ face wins many salt raw]).length c93])
                rw [List.length_append]
                exact (hw2.part (.cons del3 .nil)).updd rfl
              ·skip
               refine jf_m (by intros; rename_i h; first | exact h | exact h.pop | exact h.pop.pop | exact h.pop.pop.pop | exact h.pop.pop.pop.pop | exact h.pop.pop.pop.pop.pop | exact h.pop.pop.pop.pop.pop.pop | exact h.part .nil) rfl rfl (by decide) rfl (m_buildSlice (size := 9) (by decide) (Built.agg rfl rfl rfl (by repeat constructor) Built.nil)) (fun b92 => ?_)
               refine jf_fcall (by intros; rename_i h; first | exact h | exact h.pop | exact h.pop.pop | exact h.pop.pop.pop | exact h.pop.pop.pop.pop | exact h.pop.pop.pop.pop.pop | exact h.pop.pop.pop.pop.pop.pop | exact h.part .nil) rfl rfl (by decide) rfl (goes_func rfl) (fun w1 hw1 => cloneOf_any ad c l w1 (by omega) (hE1.keep hw1).el) (fun ⟨a90, c90⟩ => ?_)
               refine jf_m2 (by intros; rename_i h; first | exact h | exact h.pop | exact h.pop.pop | exact h.pop.pop.pop | exact h.pop.pop.pop.pop | exact h.pop.pop.pop.pop.pop | exact h.pop.pop.pop.pop.pop.pop | exact h.part .nil) rfl rfl (by decide) rfl (m_append rfl rfl (by first | exact del0 | exact del1 | exact del2 | exact del3 | exact del4) (by first | exact del0 | exact del1 | exact del2 | exact del3 | exact del4) rfl (by omega) (by omega)) (fun a93 c93 => ?_)
               first | refine jf_take rfl rfl (by decide) rfl (y_nilCheck rfl) ?_ | refine jf_take rfl rfl (by decide) rfl (y_nilCheck_func rfl) ?_
               refine jf_take rfl rfl (by decide) rfl (y_fieldAddr rfl) ?_
               refine jf_nil ?_
               refine jst ?_
               refine jnt ?_
               refine jsr ?_
               refine jz ?_
               refine jst ?_
               refine jz ?_
               refine jnt ?_
               refine jc_ret ?_
               refine jq_res (.inl rfl) rfl (.cell rfl (by first | exact ld_agg (by first | exact mem0 | exact mem1 | exact mem2 | exact mem3 | exact mem4 | exact mem5) (by repeat constructor) | exact ld_agg (by first | exact mem0 | exact mem1 | exact mem2 | exact mem3 | exact mem4 | exact mem5) (by assumption)) (.tmp rfl .nil)) ?_
               exact fun w' hw => by
                have e0 : makeE ⟨ch, cl, nx, l⟩ face wins many salt raw = 0 := by
                 have eo : offE face wins many salt raw = 0 := by unfold offE; rw [if_neg (by omega), if_neg (by omega)]
                 unfold makeE; rw [eo, if_pos rfl]
                 exact Decidable.not_not.1 (by assumption)
                have e1 : makeB ⟨ch, cl, nx, l⟩ face wins many salt raw = ⟨ch, cl, (nx + 1) % 18446744073709551616, l ++ [newO ⟨ch, cl, nx, l⟩ face wins many salt raw]⟩ := if_pos e0
                have e2 : makeO ⟨ch, cl, nx, l⟩ face wins many salt raw = newO ⟨ch, cl, nx, l⟩ face wins many salt raw := if_pos e0
                rw [e1, e2, e0]
                have hw2 := hw.cast (H' := [.row a93 (l.length + 1) c93 33 9 ((l ++ [newO ⟨ch, cl, nx, l⟩ face wins many salt raw]).flatMap Of.c), .cells b19 (Of.c (newO ⟨ch, cl, nx, l⟩ face wins many salt raw)), .cells b12 (Of.c (newO ⟨ch, cl, nx, l⟩ face wins many salt raw)), .cells b [.string ch, .string cl, .int .u64 ((nx + 1) % 18446744073709551616), .slice a93 (l.length + 1) c93]]) (by rw [List.flatMap_append] <;> rfl)
                refine ⟨(a93, c93), rfl, ?_, RowT.new hw2 (by rw [List.length_append] <;> rfl) (.tail _ (.tail _ (.head _))) rfl⟩
                show Upd w w' _ (.cells b [.string ch, .string cl, .int .u64 ((nx + 1) % 18446744073709551616), .slice a93 (l ++ [newO ⟨ch, cl, nx, l⟩ face wins many salt raw]).length c93])
                rw [List.length_append]
                exact (hw2.part (.cons del3 .nil)).updd rfl
             )
           )
         )
       )
     )
   )

end Go.Proofs.Ytghomncegjamfaa

namespace Go.Proofs.Ytghomncegjamfaa
open Go.RowKit
set_option maxRecDepth 100000
set_option maxHeartbeats 2000000
set_option linter.unusedVariables false
set_option linter.unusedSimpArgs false
attribute [local irreducible] Yields Makes Writes
theorem take_pos {ch cl : ByteArray} {nx : Int} {l : List Of} {t : Tk} {i : Nat} {o : Of} (hi : findL l t.serial = (i : Int)) (hlt : i < l.length) (hxe : l[i] = o) : takeO ⟨ch, cl, nx, l⟩ t = o ∧
    takeE ⟨ch, cl, nx, l⟩ t = if t ≠ { tkOf o t.client with sig := t.sig } then 13 else if o.taken = true then 7 else if signedB cl t = true then 0 else 10 := by
  have h1 : offAt l (findL l t.serial) = o := by rw [hi, off_at hlt, hxe]
  refine ⟨h1, ?_⟩
  unfold takeE
  rw [if_neg (show ¬ findL l t.serial < 0 by omega)]
  show (if t ≠ { tkOf (offAt l (findL l t.serial)) t.client with sig := t.sig } then (13 : Int) else if (offAt l (findL l t.serial)).taken = true then 7 else if signedB cl t = true then 0 else 10) = _
  rw [h1]
theorem not_dec {p : Prop} [Decidable p] (h : (!decide p) = true) : ¬ p := by simpa using h
theorem of_ndec {p : Prop} [Decidable p] (h : (!decide p) = false) : p := by simpa using h

theorem ltake_any (b : Nat) (ch cl : ByteArray) (nx : Int) (ad : Option Addr) (l : List Of) (c : Nat) (w : World) (hl : l.length ≤ 1000) (hA : HA.ok w (.cells b [.string ch, .string cl, .int .u64 nx, .slice ad l.length c])) (hE1 : ElO w [b] ad 9 (l.map Of.c)) (t : Tk) (hf : t.Fit) (hz1 : t.chan.size ≤ 40000) (hz2 : t.commit.size ≤ 40000) (hz3 : t.sig.size ≤ 1000000) (hof : ∀ o ∈ l, o.Fit) :
  Calls Try.prog 15 #[.pointer (some ⟨b, 0, none⟩), .agg (Tk.c t).toArray] w fun e w' => ∃ pr : Option Addr × Nat, e = .returned (.tuple #[.int .u64 (takeV ⟨ch, cl, nx, l⟩ t), .agg (Wn.c (takeW ⟨ch, cl, nx, l⟩ t)).toArray, .bool (takeI ⟨ch, cl, nx, l⟩ t), .int .i64 (takeE ⟨ch, cl, nx, l⟩ t)]) ∧ Upd w w' (.cells b [.string ch, .string cl, .int .u64 nx, .slice ad l.length c]) (Bk.h (takeB ⟨ch, cl, nx, l⟩ t) b pr.1 pr.2) ∧ RowT w w' (ad, c) pr l ((takeB ⟨ch, cl, nx, l⟩ t)).l := by
 have hr := find_range l t.serial
 refine calls_of (n := 99) (E := [(0, .pointer (some ⟨b, 0, none⟩)), (1, .agg (Tk.c t).toArray)]) (W := Hp w [b] [.cells b [.string ch, .string cl, .int .u64 nx, .slice ad l.length c]]) Try.func15 rfl rfl (Nat.le_of_ble_eq_true rfl) rfl (Hp.start rfl hA) ?_
 refine jsr ?_
 refine jl_m rfl (by decide) rfl (m_box rfl rfl) (fun b3 => ?_)
 refine jz ?_
 refine jl_m rfl (by decide) rfl (m_alloc) (fun b5 => ?_)
 refine jz ?_
 refine jz ?_
 refine jnt ?_
 refine jsr ?_
 refine jz ?_
 refine jz ?_
 refine jz ?_
 refine jpc (goes_func rfl) (fun w1 hw1 => lfind_any b ad l c w1 hl (CellAt.of_cells (hw1.get (A := .cells b [.string ch, .string cl, .int .u64 nx, .slice ad l.length c]) mem2) rfl) (hE1.keep hw1).el t.serial) ?_
 refine jz ?_
 refine jnt ?_
 refine jc_seq ?_
 refine jsr ?_
 refine jz ?_
 refine jy (y_lss rfl rfl) ?_
 refine jl_prop (fun h20 => ?_) (fun h20 => ?_)
 ·first
  | (exfalso; omega)
  | (
   refine jnt ?_
   refine jc_true rfl ?_
   refine jsr ?_
   refine jy (y_build Built.nil) ?_
   refine jz ?_
   refine jst ?_
   refine jz ?_
   refine jz ?_
   refine jnt ?_
   refine jc_ret ?_
   refine jq_then_ret ?_
   refine jq_res (.inl rfl) rfl (.tmp rfl (.cell rfl (by first | exact ld_agg (by first | exact mem0 | exact mem1 | exact mem2 | exact mem3 | exact mem4 | exact mem5) (by repeat constructor) | exact ld_agg (by first | exact mem0 | exact mem1 | exact mem2 | exact mem3 | exact mem4 | exact mem5) (by assumption)) (.tmp rfl (.tmp rfl .nil)))) ?_
   exact fun w' hw => by
    have e0 : takeE ⟨ch, cl, nx, l⟩ t = 6 := by
     exact if_pos (show findL l t.serial < 0 by omega)
    have hn : ¬ takeE ⟨ch, cl, nx, l⟩ t = 0 := by rw [e0]; decide
    have e1 : takeB ⟨ch, cl, nx, l⟩ t = ⟨ch, cl, nx, l⟩ := if_neg hn
    have e2 : takeV ⟨ch, cl, nx, l⟩ t = 0 := if_neg hn
    have e3 : takeW ⟨ch, cl, nx, l⟩ t = wn0 := if_neg hn
    have e4 : takeI ⟨ch, cl, nx, l⟩ t = false := if_neg hn
    rw [e1, e2, e3, e4, e0]
    exact ⟨(ad, c), rfl, (hw.part (F := [.cells b [.string ch, .string cl, .int .u64 nx, .slice ad l.length c]]) (.cons del2 .nil)).updd rfl, .inl ⟨rfl, rfl⟩⟩
   )
 ·first
  | (exfalso; omega)
  | (
   refine jnt ?_
   refine jc_false rfl ?_
   refine jc_skip ?_
   refine jq_then ?_
   refine jc_seq ?_
   obtain ⟨i, hi⟩ : ∃ i : Nat, findL l t.serial = (i : Int) := ⟨(findL l t.serial).toNat, by omega⟩
   have hlt : i < l.length := by omega
   obtain ⟨bb, oo, ea, hbb, hold⟩ := hE1.get hlt
   subst ea
   have hfo := hof _ (List.getElem_mem hlt)
   generalize hxe : l[i]'hlt = o at hold hfo
   refine jc_region ?_
   refine jz ?_
   refine jz ?_
   refine jz ?_
   refine jz ?_
   refine jz ?_
   refine jy (y_indexAddr_slice (off := oo + i * 9) rfl rfl (by omega) (by omega) (by omega)) ?_
   refine jy (y_loadAgg_old rfl rfl hold hbb) ?_
   refine jl_m rfl (by decide) rfl (m_alloc) (fun b9 => ?_)
   refine jst ?_
   refine jnt ?_
   refine jsr ?_
   refine jz ?_
   refine jz ?_
   refine jz ?_
   refine jpc (goes_func rfl) (fun w1 hw1 => lticket_any o t.client w1) ?_
   refine jl_m rfl (by decide) rfl (m_alloc) (fun b10 => ?_)
   refine jst ?_
   refine jnt ?_
   refine jsr ?_
   refine jz ?_
   refine jz ?_
   refine jz ?_
   refine jst ?_
   refine jnt ?_
   refine jc_seq ?_
   refine jc_block ?_
   refine jsr ?_
   refine jz ?_
   refine jz ?_
   refine jy (y_neq_agg rfl rfl (by kernel_rfl) (fun w => eq_tk 9998 t { tkOf o t.client with sig := t.sig } w)) ?_
   refine jl_bool (fun h39 => ?_) (fun h39 => ?_)
   ·skip
    refine jz ?_
    refine jnt ?_
    refine jc_true rfl ?_
    refine jsr ?_
    refine jy (y_build Built.nil) ?_
    refine jz ?_
    refine jst ?_
    refine jz ?_
    refine jz ?_
    refine jnt ?_
    refine jc_ret ?_
    refine jq_block_ret ?_
    refine jq_then_ret ?_
    refine jq_res (.inl rfl) rfl (.tmp rfl (.cell rfl (by first | exact ld_agg (by first | exact mem0 | exact mem1 | exact mem2 | exact mem3 | exact mem4 | exact mem5) (by repeat constructor) | exact ld_agg (by first | exact mem0 | exact mem1 | exact mem2 | exact mem3 | exact mem4 | exact mem5) (by assumption)) (.tmp rfl (.tmp rfl .nil)))) ?_
    exact fun w' hw => by
     have e0 : takeE ⟨ch, cl, nx, l⟩ t = 13 := by
      rw [(take_pos hi hlt hxe).2, if_pos (not_dec h39)]
     have hn : ¬ takeE ⟨ch, cl, nx, l⟩ t = 0 := by rw [e0]; decide
     have e1 : takeB ⟨ch, cl, nx, l⟩ t = ⟨ch, cl, nx, l⟩ := if_neg hn
     have e2 : takeV ⟨ch, cl, nx, l⟩ t = 0 := if_neg hn
     have e3 : takeW ⟨ch, cl, nx, l⟩ t = wn0 := if_neg hn
     have e4 : takeI ⟨ch, cl, nx, l⟩ t = false := if_neg hn
     rw [e1, e2, e3, e4, e0]
     exact ⟨((some ⟨bb, oo, none⟩), c), rfl, (hw.part (F := [.cells b [.string ch, .string cl, .int .u64 nx, .slice (some ⟨bb, oo, none⟩) l.length c]]) (.cons del4 .nil)).updd rfl, .inl ⟨rfl, rfl⟩⟩
   ·skip
    refine jz ?_
    refine jnt ?_
    refine jc_false rfl ?_
    refine jsr ?_
    refine jz ?_
    refine jz ?_
    refine jl_bool (fun h43 => ?_) (fun h43 => ?_)
    ·skip
     refine jz ?_
     refine jnt ?_
     refine jc_true rfl ?_
     refine jsr ?_
     refine jy (y_build Built.nil) ?_
     refine jz ?_
     refine jst ?_
     refine jz ?_
     refine jz ?_
     refine jnt ?_
     refine jc_ret ?_
     refine jq_block_ret ?_
     refine jq_then_ret ?_
     refine jq_res (.inl rfl) rfl (.tmp rfl (.cell rfl (by first | exact ld_agg (by first | exact mem0 | exact mem1 | exact mem2 | exact mem3 | exact mem4 | exact mem5) (by repeat constructor) | exact ld_agg (by first | exact mem0 | exact mem1 | exact mem2 | exact mem3 | exact mem4 | exact mem5) (by assumption)) (.tmp rfl (.tmp rfl .nil)))) ?_
     exact fun w' hw => by
      have e0 : takeE ⟨ch, cl, nx, l⟩ t = 7 := by
       rw [(take_pos hi hlt hxe).2, if_neg (fun h => h (of_ndec h39)), if_pos (show o.taken = true by assumption)]
      have hn : ¬ takeE ⟨ch, cl, nx, l⟩ t = 0 := by rw [e0]; decide
      have e1 : takeB ⟨ch, cl, nx, l⟩ t = ⟨ch, cl, nx, l⟩ := if_neg hn
      have e2 : takeV ⟨ch, cl, nx, l⟩ t = 0 := if_neg hn
      have e3 : takeW ⟨ch, cl, nx, l⟩ t = wn0 := if_neg hn
      have e4 : takeI ⟨ch, cl, nx, l⟩ t = false := if_neg hn
      rw [e1, e2, e3, e4, e0]
      exact ⟨((some ⟨bb, oo, none⟩), c), rfl, (hw.part (F := [.cells b [.string ch, .string cl, .int .u64 nx, .slice (some ⟨bb, oo, none⟩) l.length c]]) (.cons del4 .nil)).updd rfl, .inl ⟨rfl, rfl⟩⟩
    ·skip
     refine jz ?_
     refine jnt ?_
     refine jc_false rfl ?_
     refine jc_seq ?_
     refine jc_draw (by kernel_rfl) (fun _ h => h.drew) ?_
     refine juz ?_
     refine juz ?_
     refine juz ?_
     refine juz ?_
     refine juz ?_
     refine ju_call rfl (by decide) rfl (goes_func rfl) (fun w1 hw1 => pcall hw1 (signed_any cl t w1 hf hz1 hz2 hz3)) ?_
     refine ju_bool (fun h51 => ?_) (fun h51 => ?_)
     ·skip
      refine juz ?_
      refine juz ?_
      refine ju_nil ?_
      refine jq_then ?_
      refine jc_false rfl ?_
      refine jc_skip ?_
      refine jq_block ?_
      refine jq_then ?_
      refine jsr ?_
      refine jz ?_
      refine jz ?_
      refine jz ?_
      refine jz ?_
      refine jz ?_
      refine jl_fcall rfl (by decide) rfl (goes_func rfl) (fun w1 hw1 => cloneOf_pos _ c l w1 (by omega) (by omega) (hE1.keep hw1).el) (fun ⟨b59, c59⟩ => ?_)
      refine jz ?_
      refine jz ?_
      refine jst ?_
      refine jnt ?_
      refine jsr ?_
      refine jz ?_
      refine jz ?_
      refine jz ?_
      refine jz ?_
      refine jz ?_
      refine jy (y_indexAddr_slice (off := i * 9) rfl rfl (by omega) (by omega) (by omega)) ?_
      refine jz ?_
      refine jl_w rfl rfl (w_store_row rfl rfl rfl (by rw [flat_len (n := 9) (c := Of.c) (fun _ => rfl)]; omega) rep0) ?_
      refine jnt ?_
      refine jsr ?_
      refine jz ?_
      refine jz ?_
      refine jz ?_
      refine jz ?_
      refine jz ?_
      refine jz ?_
      refine jpc (goes_func rfl) (fun w1 hw1 => nominal_any _ _ _ w1 hfo.face hfo.wins hfo.many) ?_
      refine jz ?_
      refine jz ?_
      refine jz ?_
      refine jz ?_
      refine jz ?_
      refine jnt ?_
      refine jsr ?_
      refine jz ?_
      refine jz ?_
      refine jz ?_
      refine jz ?_
      refine jz ?_
      refine jz ?_
      refine jz ?_
      refine jz ?_
      refine jpc (goes_func rfl) (fun w1 hw1 => wins_any _ _ _ _ w1 hfo.drawn hf.client hfo.wins hfo.many) ?_
      refine jz ?_
      refine jz ?_
      refine jz ?_
      refine jz ?_
      refine jz ?_
      refine jnt ?_
      refine jc_seq ?_
      refine jc_schedC (Hp w [b] [.cells b9 (Of.c o), .cells b3 (Tk.c t)]) 11 [(0, true), (1, true), (2, true), (3, true), (4, true), (5, true), (6, true), (7, true), (8, true), (9, false), (10, true)] rfl (by kernel_rfl) (fun _ _ _ _ h => h) (fun _ h => (h.part (.cons del2 (.cons del3 .nil))).drew) (fun _ h => h.drew) ?_
      simp only [pickO, nthO, List.drop_succ_cons, List.drop_zero]
      refine jkz ?_
      refine jkz ?_
      refine jkz ?_
      refine jkz ?_
      refine jkz ?_
      refine jkz ?_
      refine jky (y_build (Built.agg rfl rfl rfl (by repeat constructor) (Built.cell rfl rfl rfl (by repeat constructor) (Built.cell rfl rfl rfl (by repeat constructor) Built.nil)))) ?_
      refine jkz ?_
      refine jkz ?_
      refine js_w rfl rfl (w_storeAgg rfl rfl rfl rfl (by first | exact rep0 | exact rep1 | exact rep2 | exact rep3 | exact rep4) (by repeat constructor)) (by intro _ h; exact h.part (.cons del2 (.cons del3 .nil))) ?_
      refine jkz ?_
      refine js_nil ?_
      refine jz ?_
      refine jnt ?_
      refine jc_ret ?_
      refine jq_res (.inl rfl) rfl (.tmp rfl (.cell rfl (by first | exact ld_agg (by first | exact mem0 | exact mem1 | exact mem2 | exact mem3 | exact mem4 | exact mem5) (by repeat constructor) | exact ld_agg (by first | exact mem0 | exact mem1 | exact mem2 | exact mem3 | exact mem4 | exact mem5) (by assumption)) (.tmp rfl (.tmp rfl .nil)))) ?_
      exact fun w' hw => by
       obtain ⟨ho, he⟩ := take_pos (ch := ch) (cl := cl) (nx := nx) hi hlt hxe
       have e0 : takeE ⟨ch, cl, nx, l⟩ t = 0 := by rw [he, if_neg (fun h => h (of_ndec h39)), if_neg (show ¬ o.taken = true by rw [show o.taken = false by assumption]; decide), if_pos (show signedB cl t = true by assumption)]
       have e1 : takeB ⟨ch, cl, nx, l⟩ t = ⟨ch, cl, nx, l.set i { o with taken := true }⟩ := by
        unfold takeB; rw [if_pos e0, ho]; show Bk.mk _ _ _ (l.set (findL l t.serial).toNat _) = _; rw [hi]; rfl
       have e2 : takeV ⟨ch, cl, nx, l⟩ t = nomV o.face o.wins o.many := by unfold takeV; rw [if_pos e0, ho]
       have e3 : takeW ⟨ch, cl, nx, l⟩ t = ⟨t, o.salt, o.drawn⟩ := by unfold takeW; rw [if_pos e0, ho]
       have e4 : takeI ⟨ch, cl, nx, l⟩ t = winsB o.drawn t.client o.wins o.many := by unfold takeI; rw [if_pos e0, ho]
       rw [e1, e2, e3, e4, e0]
       have hfl : (l.flatMap Of.c).set (i * 9 + 8) (.bool true) = (l.set i { o with taken := true }).flatMap Of.c := by have h := flat_off (l := l) hlt (by rw [hxe]; assumption); rw [hxe] at h; exact h
       have hw2 := hw.cast (H' := [.row (some ⟨b59, 0, none⟩) (l.length) c59 33 9 ((l.set i { o with taken := true }).flatMap Of.c), .cells b10 (Tk.c { tkOf o t.client with sig := t.sig }), .cells b9 (Of.c o), .cells b5 (Wn.c ⟨t, o.salt, o.drawn⟩), .cells b3 (Tk.c t), .cells b [.string ch, .string cl, .int .u64 nx, .slice (some ⟨b59, 0, none⟩) l.length c59]]) (by rw [← hfl] <;> rfl)
       refine ⟨(some ⟨b59, 0, none⟩, c59), rfl, ?_, RowT.new hw2 (by rw [List.length_set]) (.tail _ (.tail _ (.tail _ (.tail _ (.head _))))) rfl⟩
       show Upd w w' _ (.cells b [.string ch, .string cl, .int .u64 nx, .slice (some ⟨b59, 0, none⟩) (l.set i _).length c59])
       rw [List.length_set]
       exact (hw2.part (.cons (.tail (.tail (.tail (.tail (.tail .head))))) .nil)).updd rfl
     ·skip
      refine juz ?_
      refine juz ?_
      refine ju_nil ?_
      refine jq_then ?_
      refine jc_true rfl ?_
      refine jsr ?_
      refine jy (y_build Built.nil) ?_
      refine jz ?_
      refine jst ?_
      refine jz ?_
      refine jz ?_
      refine jnt ?_
      refine jc_ret ?_
      refine jq_block_ret ?_
      refine jq_then_ret ?_
      refine jq_res (.inl rfl) rfl (.tmp rfl (.cell rfl (by first | exact ld_agg (by first | exact mem0 | exact mem1 | exact mem2 | exact mem3 | exact mem4 | exact mem5) (by repeat constructor) | exact ld_agg (by first | exact mem0 | exact mem1 | exact mem2 | exact mem3 | exact mem4 | exact mem5) (by assumption)) (.tmp rfl (.tmp rfl .nil)))) ?_
      exact fun w' hw => by
       have e0 : takeE ⟨ch, cl, nx, l⟩ t = 10 := by
        rw [(take_pos hi hlt hxe).2, if_neg (fun h => h (of_ndec h39)), if_neg (show ¬ o.taken = true by rw [show o.taken = false by assumption]; decide), if_neg (show ¬ signedB cl t = true by rw [show signedB cl t = false by assumption]; decide)]
       have hn : ¬ takeE ⟨ch, cl, nx, l⟩ t = 0 := by rw [e0]; decide
       have e1 : takeB ⟨ch, cl, nx, l⟩ t = ⟨ch, cl, nx, l⟩ := if_neg hn
       have e2 : takeV ⟨ch, cl, nx, l⟩ t = 0 := if_neg hn
       have e3 : takeW ⟨ch, cl, nx, l⟩ t = wn0 := if_neg hn
       have e4 : takeI ⟨ch, cl, nx, l⟩ t = false := if_neg hn
       rw [e1, e2, e3, e4, e0]
       exact ⟨((some ⟨bb, oo, none⟩), c), rfl, (hw.part (F := [.cells b [.string ch, .string cl, .int .u64 nx, .slice (some ⟨bb, oo, none⟩) l.length c]]) (.cons del4 .nil)).updd rfl, .inl ⟨rfl, rfl⟩⟩
   )

end Go.Proofs.Ytghomncegjamfaa

namespace Go.Proofs.Ytghomncegjamfaa
open Go.RowKit
set_option maxRecDepth 100000
set_option maxHeartbeats 2000000
set_option linter.unusedVariables false
set_option linter.unusedSimpArgs false
attribute [local irreducible] Yields Makes Writes
section
variable {w0 w : World} {S : List Nat} {H : List HA} {B : Bk} {b c : Nat} {ad : Option Addr}
/-- A book and its row, both own. -/
structure BkIn (H : List HA) (B : Bk) (b : Nat) (ad : Option Addr) (c : Nat) : Prop where
  h : B.h b ad c ∈ H
  r : Bk.r B.l ad c ∈ H
  len : B.l.length ≤ 1000
theorem BkIn.cell (h : Hp w0 S H w) (i : BkIn H B b ad c) : CellAt w b 3 (.slice ad B.l.length c) := CellAt.of_cells (h.get i.h) rfl
theorem BkIn.el (h : Hp w0 S H w) (i : BkIn H B b ad c) : ElAt w ad 9 (B.l.map Of.c) := ElAt.of_row (c := Of.c) (fun _ => rfl) rfl (h.get i.r)
theorem bk_make (h : Hp w0 S H w) (i : BkIn H B b ad c) (hf : B.Fit) (face wins many : Int) (salt : ByteArray) (raw : Int) (h1 : fits .u64 face) (h2 : fits .u64 wins) (h3 : fits .u64 many) (h4 : fits .u64 raw) (hs : salt.size ≤ 1000000) :
    Calls Try.prog 11 #[.pointer (some ⟨b, 0, none⟩), .int .u64 face, .int .u64 wins, .int .u64 many, .string salt, .int .u64 raw] w fun e w' => ∃ pr : Option Addr × Nat, e = .returned (.tuple #[.agg (Of.c (makeO B face wins many salt raw)).toArray, .int .i64 (makeE B face wins many salt raw)]) ∧ Upd w w' (B.h b ad c) ((makeB B face wins many salt raw).h b pr.1 pr.2) ∧ RowT w w' (ad, c) pr B.l (makeB B face wins many salt raw).l :=
  lmake_any b B.chan B.cl B.next ad B.l c w i.len (h.get i.h) (row_elO h i.h i.r) face wins many salt raw h1 h2 h3 h4 hs (fun x hx => (hf.l x hx).face) hf.next
theorem bk_gone (h : Hp w0 S H w) (i : BkIn H B b ad c) (s : Int) :
    Calls Try.prog 19 #[.pointer (some ⟨b, 0, none⟩), .int .u64 s] w fun e w' => ∃ pr : Option Addr × Nat, e = .returned (.int .i64 (goneE B s)) ∧ Upd w w' (B.h b ad c) ((goneB B s).h b pr.1 pr.2) ∧ RowT w w' (ad, c) pr B.l (goneB B s).l :=
  lgone_any b B.chan B.cl B.next ad B.l c w i.len (h.get i.h) (row_elO h i.h i.r) s
theorem bk_put (h : Hp w0 S H w) (i : BkIn H B b ad c) (hf : B.Fit) (o : Of) (ho : o.Fit) (hs : o.salt.size ≤ 1000000) :
    Calls Try.prog 22 #[.pointer (some ⟨b, 0, none⟩), .agg (Of.c o).toArray] w fun e w' => ∃ pr : Option Addr × Nat, e = .returned (.int .i64 (putE B o)) ∧ Upd w w' (B.h b ad c) ((putB B o).h b pr.1 pr.2) ∧ RowT w w' (ad, c) pr B.l (putB B o).l :=
  lput_any b B.chan B.cl B.next ad B.l c w i.len (h.get i.h) (row_elO h i.h i.r) o ho hs (fun x hx => (hf.l x hx).face) hf.next
theorem bk_take (h : Hp w0 S H w) (i : BkIn H B b ad c) (hf : B.Fit) (t : Tk) (ht : t.Fit) (h1 : t.chan.size ≤ 40000) (h2 : t.commit.size ≤ 40000) (h3 : t.sig.size ≤ 1000000) :
    Calls Try.prog 15 #[.pointer (some ⟨b, 0, none⟩), .agg (Tk.c t).toArray] w fun e w' => ∃ pr : Option Addr × Nat, e = .returned (.tuple #[.int .u64 (takeV B t), .agg (Wn.c (takeW B t)).toArray, .bool (takeI B t), .int .i64 (takeE B t)]) ∧ Upd w w' (B.h b ad c) ((takeB B t).h b pr.1 pr.2) ∧ RowT w w' (ad, c) pr B.l (takeB B t).l :=
  ltake_any b B.chan B.cl B.next ad B.l c w i.len (h.get i.h) (row_elO h i.h i.r) t ht h1 h2 h3 hf.l
theorem bk_next (h : Hp w0 S H w) (i : BkIn H B b ad c) : Calls Try.prog 17 #[.pointer (some ⟨b, 0, none⟩)] w fun e w' => e = .returned (.int .u64 B.next) ∧ Ch [] w w' :=
  lnext_any b B.next w (CellAt.of_cells (h.get i.h) rfl)
theorem bk_open (h : Hp w0 S H w) (i : BkIn H B b ad c) : Calls Try.prog 21 #[.pointer (some ⟨b, 0, none⟩)] w fun e w' => e = .returned (.int .u64 (openL B.l)) ∧ Ch [] w w' :=
  lopen_any b ad B.l c w i.len (i.cell h) (i.el h)
theorem bk_offers (h : Hp w0 S H w) (i : BkIn H B b ad c) : Calls Try.prog 18 #[.pointer (some ⟨b, 0, none⟩)] w fun e w' => ∃ b', e = .returned (.slice (some ⟨b', 0, none⟩) B.l.length B.l.length) ∧ Fresh w w' (Bk.r B.l (some ⟨b', 0, none⟩) B.l.length) :=
  loffers_any b ad B.l c w i.len (i.cell h) (i.el h)
end

theorem flat_next {α : Type} {c : α → List Value} {l : List α} {i : Nat} (h : i < l.length) : (l.take (i + 1)).flatMap c = (l.take i).flatMap c ++ c l[i] := by
  rw [List.take_succ_eq_append_getElem h, List.flatMap_append]; simp

theorem lrefs_any (ad : Option Addr) (c : Nat) (l : List Of) (w : World) (hl : l.length ≤ 1000) (hE : ElAt w ad 9 (l.map Of.c)) :
  Calls Try.prog 24 #[.slice ad l.length c] w fun e w' => ∃ pr : Option Addr × Nat, e = .returned (.slice pr.1 l.length pr.2) ∧ Fresh w w' (.row pr.1 (l.length) pr.2 98 9 ((l).flatMap Of.c)) := by
 refine calls_of (n := 21) (E := [(0, .slice ad l.length c)]) (W := Hp w [] []) Try.func24 rfl rfl (Nat.le_of_ble_eq_true rfl) rfl (Hp.nil _ _) ?_
 refine jsr ?_
 refine jz ?_
 refine jnt ?_
 refine jsr ?_
 refine jl_m rfl (by decide) rfl (m_buildSlice (size := 9) (by decide) Built.nil) (fun b5 => ?_)
 refine jz ?_
 refine jnt ?_
 refine jc_seq ?_
 refine jsr ?_
 refine jz ?_
 refine jnt ?_
 refine jc_block ?_
 refine jc_loop3 (fun (i : Nat) (au : Option Addr) (cu : Nat) => [(0, .slice ad l.length c), (3, .slice au i cu), (4, .int .i64 (i : Nat))]) (fun (i : Nat) (au : Option Addr) (cu : Nat) => fun w' => i ≤ l.length ∧ Hp w [] [.row au (i) cu 98 9 ((l.take i).flatMap Of.c)] w') (fun (i : Nat) (au : Option Addr) (cu : Nat) => l.length - i) 0 (some ⟨b5, 0, none⟩) 0 ?_ ?_ ?_
 ·exact ⟨rfl, rfl, rfl, trivial⟩
 ·exact fun _ h => ⟨by omega, h⟩
 ·intro i au cu
  refine jc_and (fun hi => ?_)
  refine jc_seq ?_
  refine jsr ?_
  refine jz ?_
  refine jz ?_
  refine jy (y_len_slice rfl) ?_
  refine jy (y_lss rfl rfl) ?_
  refine jl_prop (fun h9 => ?_) (fun h9 => ?_)
  ·first
   | (exfalso; omega)
   | (
    have hlt : i < l.length := by omega
    obtain ⟨bb, oo, ea, hold⟩ := hE.get hlt
    subst ea
    have hnx := flat_next (c := Of.c) hlt
    generalize hxe : l[i]'hlt = o at *
    refine jnt ?_
    refine jc_true rfl ?_
    refine jc_skip ?_
    refine jq_then ?_
    refine jc_seq ?_
    refine jc_block ?_
    refine jc_region ?_
    refine jz ?_
    refine jz ?_
    refine jz ?_
    refine jy (y_indexAddr_slice (off := oo + i * 9) rfl rfl (by omega) (by omega) (by omega)) ?_
    refine jy (y_loadAgg_old rfl rfl hold (by simp)) ?_
    refine jpc (goes_func rfl) (fun w1 hw1 => lref_any o w1) ?_
    refine jl_m rfl (by decide) rfl (m_buildSlice (size := 9) (by decide) (Built.agg rfl rfl rfl (by repeat constructor) Built.nil)) (fun b18 => ?_)
    refine jl_m2 rfl (by decide) rfl (m_append rfl rfl (by first | exact del0 | exact del1 | exact del2 | exact del3 | exact del4) (by first | exact del0 | exact del1 | exact del2 | exact del3 | exact del4) rfl (by omega) (by omega)) (fun a19 c19 => ?_)
    refine jz ?_
    refine jl_nil ?_
    refine jq_block ?_
    refine jq_then ?_
    refine jc_region ?_
    refine jz ?_
    refine jy (y_add_fits rfl rfl (by simp only [fits]; omega)) ?_
    refine jz ?_
    refine jl_nil ?_
    refine jq_round3 (i := i) (j := au) (l := cu) (i + 1) a19 c19 ?_ ?_ ?_
    ·omega
    ·exact ⟨rfl, rfl, lk_int rfl (by omega), trivial⟩
    ·exact fun _ h => ⟨by omega, h.cast (by rw [hnx]; rfl)⟩
    )
  ·first
   | (exfalso; omega)
   | (
    refine jnt ?_
    refine jc_false rfl ?_
    refine jc_exit ?_
    refine jq_then_exit ?_
    refine jq_then_exit ?_
    refine jq_hit ?_
    refine jq_then ?_
    refine jsr ?_
    refine jz ?_
    refine jz ?_
    refine jnt ?_
    refine jc_ret ?_
    refine jq_ret1 rfl rfl ?_
    exact fun w' hw => (by have e : i = l.length := (by omega); subst e; rw [List.take_length] at hw; exact ⟨(au, cu), rfl, hw.fresh⟩)
    )

theorem eq_rof (m : Nat) (x y : Of) (w : World) : (Op.equalIn (m + 2) 98 (.agg (Of.c x).toArray) (.agg (Of.c y).toArray)).run Try.prog w = .ok (decide (x = y)) w := by
  rw [run_equalIn_agg _ _ 98 _ _ (by kernel_rfl) (by kernel_rfl), show (Program.fieldsOf Try.prog 98).toList = [((fsOf (Try.prog.underlying 98)).getD 0 default), ((fsOf (Try.prog.underlying 98)).getD 1 default), ((fsOf (Try.prog.underlying 98)).getD 2 default), ((fsOf (Try.prog.underlying 98)).getD 3 default), ((fsOf (Try.prog.underlying 98)).getD 4 default), ((fsOf (Try.prog.underlying 98)).getD 5 default), ((fsOf (Try.prog.underlying 98)).getD 6 default), ((fsOf (Try.prog.underlying 98)).getD 7 default), ((fsOf (Try.prog.underlying 98)).getD 8 default)] from by kernel_rfl]
  refine Eq.trans (eqF_cell (by kernel_rfl) (T := 9) (by kernel_rfl) (off := 0) (by kernel_rfl) rfl rfl (equalIn_str (m) _ _ w) (eqF_cell (by kernel_rfl) (T := 22) (by kernel_rfl) (off := 1) (by kernel_rfl) rfl rfl (equalIn_int (m) _ _ w) (eqF_cell (by kernel_rfl) (T := 22) (by kernel_rfl) (off := 2) (by kernel_rfl) rfl rfl (equalIn_int (m) _ _ w) (eqF_cell (by kernel_rfl) (T := 22) (by kernel_rfl) (off := 3) (by kernel_rfl) rfl rfl (equalIn_int (m) _ _ w) (eqF_cell (by kernel_rfl) (T := 22) (by kernel_rfl) (off := 4) (by kernel_rfl) rfl rfl (equalIn_int (m) _ _ w) (eqF_cell (by kernel_rfl) (T := 9) (by kernel_rfl) (off := 5) (by kernel_rfl) rfl rfl (equalIn_str (m) _ _ w) (eqF_cell (by kernel_rfl) (T := 9) (by kernel_rfl) (off := 6) (by kernel_rfl) rfl rfl (equalIn_str (m) _ _ w) (eqF_cell (by kernel_rfl) (T := 22) (by kernel_rfl) (off := 7) (by kernel_rfl) rfl rfl (equalIn_int (m) _ _ w) (eqF_cell (by kernel_rfl) (T := 4) (by kernel_rfl) (off := 8) (by kernel_rfl) rfl rfl (equalIn_bool' (m) _ _ w) eqF_nil))))))))) ?_
  congr 1
  rw [Bool.eq_iff_iff]
  cases x; cases y
  simp
theorem eq_of (m : Nat) (x y : Of) (w : World) : (Op.equalIn (m + 2) 33 (.agg (Of.c x).toArray) (.agg (Of.c y).toArray)).run Try.prog w = .ok (decide (x = y)) w := by
  rw [run_equalIn_agg _ _ 33 _ _ (by kernel_rfl) (by kernel_rfl), show (Program.fieldsOf Try.prog 33).toList = [((fsOf (Try.prog.underlying 33)).getD 0 default), ((fsOf (Try.prog.underlying 33)).getD 1 default), ((fsOf (Try.prog.underlying 33)).getD 2 default), ((fsOf (Try.prog.underlying 33)).getD 3 default), ((fsOf (Try.prog.underlying 33)).getD 4 default), ((fsOf (Try.prog.underlying 33)).getD 5 default), ((fsOf (Try.prog.underlying 33)).getD 6 default), ((fsOf (Try.prog.underlying 33)).getD 7 default), ((fsOf (Try.prog.underlying 33)).getD 8 default)] from by kernel_rfl]
  refine Eq.trans (eqF_cell (by kernel_rfl) (T := 9) (by kernel_rfl) (off := 0) (by kernel_rfl) rfl rfl (equalIn_str (m) _ _ w) (eqF_cell (by kernel_rfl) (T := 22) (by kernel_rfl) (off := 1) (by kernel_rfl) rfl rfl (equalIn_int (m) _ _ w) (eqF_cell (by kernel_rfl) (T := 22) (by kernel_rfl) (off := 2) (by kernel_rfl) rfl rfl (equalIn_int (m) _ _ w) (eqF_cell (by kernel_rfl) (T := 22) (by kernel_rfl) (off := 3) (by kernel_rfl) rfl rfl (equalIn_int (m) _ _ w) (eqF_cell (by kernel_rfl) (T := 22) (by kernel_rfl) (off := 4) (by kernel_rfl) rfl rfl (equalIn_int (m) _ _ w) (eqF_cell (by kernel_rfl) (T := 9) (by kernel_rfl) (off := 5) (by kernel_rfl) rfl rfl (equalIn_str (m) _ _ w) (eqF_cell (by kernel_rfl) (T := 9) (by kernel_rfl) (off := 6) (by kernel_rfl) rfl rfl (equalIn_str (m) _ _ w) (eqF_cell (by kernel_rfl) (T := 22) (by kernel_rfl) (off := 7) (by kernel_rfl) rfl rfl (equalIn_int (m) _ _ w) (eqF_cell (by kernel_rfl) (T := 4) (by kernel_rfl) (off := 8) (by kernel_rfl) rfl rfl (equalIn_bool' (m) _ _ w) eqF_nil))))))))) ?_
  congr 1
  rw [Bool.eq_iff_iff]
  cases x; cases y
  simp
end Go.Proofs.Ytghomncegjamfaa
