/- The walks of the document's answer for the lottery. Written by program (walk.py) out of a table of contracts and invariants. -/
import Derived.Test.YtghomncegjamfaaGreatRs
import Derived.Test.YtghomncegjamfaaGreatLw
import Derived.Test.YtghomncegjamfaaGreatJy
namespace Go.Proofs.YtghomncegjamfaaGreat
open Go.RowKit
set_option maxRecDepth 100000
set_option maxHeartbeats 2000000
set_option linter.unusedVariables false
set_option linter.unusedSimpArgs false
attribute [local irreducible] Yields Makes Writes
/-- A row of the document's offers. -/
abbrev Bk.rr (l : List Of) (ad : Option Addr) (c : Nat) : HA := .row ad l.length c 55 9 (l.flatMap Of.c)
theorem room_zero {l : List Of} (h : fits .u64 (openL l)) : roomE l 0 = if 8 ≤ l.length then 9 else 0 := by
  simp only [fits] at h
  unfold roomE
  split
  · rfl
  · unfold addE; rw [if_neg (by omega)]
theorem tk_eq {t : Tk} {o : Of} (h0 : o.serial = t.serial) (h1 : t.chan = o.chan) (h2 : t.face = o.face) (h3 : t.wins = o.wins) (h4 : t.many = o.many) (h5 : t.commit = o.commit) : t = { tkOf o t.client with sig := t.sig } := by
  cases t; cases o
  simp only [tkOf] at *
  subst h0 h1 h2 h3 h4 h5
  rfl
theorem tk_ne {t : Tk} {o : Of} (h : t.chan ≠ o.chan ∨ t.face ≠ o.face ∨ t.wins ≠ o.wins ∨ t.many ≠ o.many ∨ t.commit ≠ o.commit) : t ≠ { tkOf o t.client with sig := t.sig } := by
  intro e
  rcases h with h | h | h | h | h
  · exact h (by rw [e] <;> rfl)
  · exact h (by rw [e] <;> rfl)
  · exact h (by rw [e] <;> rfl)
  · exact h (by rw [e] <;> rfl)
  · exact h (by rw [e] <;> rfl)
theorem idxFrom_spec {α : Type} {f : α → Bool} : ∀ {l : List α} {i k : Nat} {y : α}, idxFrom f l i = ((i + k : Nat) : Int) → l[k]? = some y → f y = true
  | [], _, _, _, _, h => by simp at h
  | x :: xs, i, k, y, h1, h => by
    unfold idxFrom at h1
    cases hx : f x
    · rw [hx] at h1
      simp only [Bool.false_eq_true, if_false] at h1
      cases k with
      | zero =>
        have h2 : ∀ (l : List α) (i : Nat), idxFrom f l i = -1 ∨ (i : Int) ≤ idxFrom f l i := by
          intro l
          induction l with
          | nil => intro i; exact .inl rfl
          | cons z zs ih =>
            intro i
            unfold idxFrom
            split
            · exact .inr (Int.le_refl _)
            · rcases ih (i + 1) with h3 | h3
              · exact .inl h3
              · exact .inr (by omega)
        rcases h2 xs (i + 1) with h3 | h3 <;> omega
      | succ k => exact idxFrom_spec (k := k) (by rw [h1]; congr 1; omega) (by simpa using h)
    · rw [hx] at h1
      simp only [if_true] at h1
      have : k = 0 := by omega
      subst this
      simp only [List.getElem?_cons_zero, Option.some.injEq] at h
      subst h; exact hx
theorem flat_cell {l : List Of} {i : Nat} {o : Of} (h : i < l.length) (ho : l[i] = o) : ∀ j u, (Of.c o)[j]? = some u → (l.flatMap Of.c)[i * 9 + j]? = some u := fun j u hj => by
  have hl : j < 9 := (List.getElem?_eq_some_iff.1 hj).1
  rw [flat_get (c := Of.c) (fun _ => rfl) l i j h hl, ho]; exact hj
theorem take_cell {l : List Of} {i j : Nat} {u : Value} (h : ((l.take i).flatMap Of.c)[j]? = some u) : (l.flatMap Of.c)[j]? = some u := by
  rw [← take_flat, List.getElem?_take] at h
  split at h
  · exact h
  · cases h
theorem find_ser {l : List Of} {s : Int} {i : Nat} {o : Of} (hi : findL l s = (i : Int)) (hlt : i < l.length) (ho : l[i] = o) : o.serial = s := by
  have h : idxFrom (fun o : Of => decide (o.serial = s)) l 0 = ((0 + i : Nat) : Int) := by rw [Nat.zero_add]; exact hi
  exact of_decide_eq_true (idxFrom_spec (f := fun o : Of => decide (o.serial = s)) (y := o) h (by rw [List.getElem?_eq_getElem hlt, ho]))

theorem ropen16_any (b : Nat) (ad : Option Addr) (l : List Of) (c : Nat) (w : World) (hl : l.length ≤ 1000) (h : CellAt w b 3 (.slice ad l.length c)) (hE : ElAt w ad 9 (l.map Of.c)) :
  Calls Tryz.prog 15 #[.pointer (some ⟨b, 0, none⟩)] w fun e w' => e = .returned (.int .u64 (openL l)) ∧ Ch [] w w' := by
 refine calls_of (n := 34) (E := [(0, .pointer (some ⟨b, 0, none⟩))]) (W := Hp w [] []) Tryz.func15 rfl rfl (Nat.le_of_ble_eq_true rfl) rfl (Hp.nil _ _) ?_; refine jsr ?_; refine jz ?_; refine jnt ?_; refine jsr ?_; refine jz ?_; refine jnt ?_; refine jc_seq ?_; refine jsr ?_; refine jz ?_; refine jnt ?_; refine jc_block ?_; refine jc_loop (fun (i : Nat) => [(0, .pointer (some ⟨b, 0, none⟩)), (3, .int .u64 (openL (l.take i))), (4, .int .i64 (i : Nat))]) (fun (i : Nat) => fun w' => i ≤ l.length ∧ Hp w [] [] w') (fun (i : Nat) => l.length - i) 0 ?_ ?_ ?_
 ·exact ⟨rfl, rfl, rfl, trivial⟩
 ·exact fun _ h => ⟨by omega, h⟩
 ·intro i
  refine jc_and (fun hi => ?_); refine jc_seq ?_; refine jsr ?_; (iterate 4 refine jz ?_); refine jy (y_load_old rfl h List.not_mem_nil) ?_; refine jy (y_len_slice rfl) ?_; refine jy (y_lss rfl rfl) ?_; refine jl_prop (fun h11 => ?_) (fun h11 => ?_)
  ·first | (exfalso; omega) | (
    have hlt : i < l.length := by omega
    have hnx := openL_take hlt
    obtain ⟨bb, oo, ea, hold⟩ := hE.get hlt
    subst ea
    generalize hxe : l[i]'hlt = o at *
    refine jnt ?_; refine jc_true rfl ?_; refine jc_skip ?_; refine jq_then ?_; refine jc_seq ?_; refine jc_block ?_; refine jsr ?_; (iterate 3 refine jz ?_); refine jy (y_load_old rfl h List.not_mem_nil) ?_; refine jz ?_; refine jy (y_indexAddr_slice (off := oo + i * 9) rfl rfl (by omega) (by omega) (by omega)) ?_; refine jz ?_; refine jy (y_load_old rfl (hold 8 _ rfl) (by simp)) ?_; refine jl_bool (fun h21 => ?_) (fun h21 => ?_)
    ·skip
     refine jz ?_; refine jnt ?_; refine jc_false rfl ?_; refine jc_skip ?_; refine jq_block ?_; refine jq_then ?_; refine jc_region ?_; refine jz ?_; refine jy (yaf rfl rfl) ?_; refine jz ?_; refine jl_nil ?_; refine jq_round (i := i) (i + 1) ?_ ?_ ?_
     ·omega
     ·exact ⟨rfl, lk_int rfl (by rw [hnx, if_pos (by assumption)]), lk_int rfl (by omega), trivial⟩
     ·exact fun _ h => ⟨by omega, h⟩
    ·skip
     refine jz ?_; refine jnt ?_; refine jc_true rfl ?_; refine jc_region ?_; (iterate 4 refine jz ?_); refine jy (y_load_old rfl h List.not_mem_nil) ?_; refine jz ?_; refine jy (y_indexAddr_slice (off := oo + i * 9) rfl rfl (by omega) (by omega) (by omega)) ?_; refine jz ?_; refine jy (y_load_old rfl (hold 2 _ rfl) (by simp)) ?_; refine jy (y_add_u64 rfl rfl) ?_; refine jz ?_; refine jl_nil ?_; refine jq_block ?_; refine jq_then ?_; refine jc_region ?_; refine jz ?_; refine jy (yaf rfl rfl) ?_; refine jz ?_; refine jl_nil ?_; refine jq_round (i := i) (i + 1) ?_ ?_ ?_
     ·omega
     ·exact ⟨rfl, lk_int rfl (by rw [hnx, if_neg (by rw [show o.taken = false by assumption]; decide)]), lk_int rfl (by omega), trivial⟩
     ·exact fun _ h => ⟨by omega, h⟩
    )
  ·first | (exfalso; omega) | (refine jnt ?_; refine jc_false rfl ?_; refine jc_exit ?_; (iterate 2 refine jq_then_exit ?_); refine jq_hit ?_; refine jq_then ?_; refine jsr ?_; (iterate 2 refine jz ?_); refine jnt ?_; refine jc_ret ?_; refine jq_ret1 rfl rfl ?_; exact fun _ hw => ⟨by rw [List.take_of_length_le (by omega)], hw.ch⟩)

theorem rfind16_any (b : Nat) (ad : Option Addr) (l : List Of) (c : Nat) (w : World) (hl : l.length ≤ 1000) (h : CellAt w b 3 (.slice ad l.length c)) (hE : ElAt w ad 9 (l.map Of.c)) (s : Int) :
  Calls Tryz.prog 59 #[.pointer (some ⟨b, 0, none⟩), .int .u64 s] w fun e w' => e = .returned (.int .i64 (findL l s)) ∧ Ch [] w w' := by
 refine calls_of (n := 26) (E := [(0, .pointer (some ⟨b, 0, none⟩)), (1, .int .u64 s)]) (W := Hp w [] []) Tryz.func59 rfl rfl (Nat.le_of_ble_eq_true rfl) rfl (Hp.nil _ _) ?_; refine jsr ?_; refine jz ?_; refine jnt ?_; refine jc_seq ?_; refine jsr ?_; refine jz ?_; refine jnt ?_; refine jc_block ?_; refine jc_loop (fun (i : Nat) => [(0, .pointer (some ⟨b, 0, none⟩)), (1, .int .u64 s), (5, .int .i64 (i : Nat))]) (fun (i : Nat) => fun w' => (i ≤ l.length ∧ ∀ j z, j < i → l[j]? = some z → decide (z.serial = s) = false) ∧ Hp w [] [] w') (fun (i : Nat) => l.length - i) 0 ?_ ?_ ?_
 ·exact ⟨rfl, rfl, rfl, trivial⟩
 ·exact fun _ h => ⟨⟨by omega, fun j z hj _ => absurd hj (by omega)⟩, h⟩
 ·intro i
  refine jc_and (fun hi2 => ?_)
  obtain ⟨hi, hno⟩ := hi2
  refine jc_seq ?_; refine jsr ?_; (iterate 4 refine jz ?_); refine jy (y_load_old rfl h List.not_mem_nil) ?_; refine jy (y_len_slice rfl) ?_; refine jy (y_lss rfl rfl) ?_; refine jl_prop (fun h12 => ?_) (fun h12 => ?_)
  ·first | (exfalso; omega) | (
    have hlt : i < l.length := by omega
    have hnx := openL_take hlt
    obtain ⟨bb, oo, ea, hold⟩ := hE.get hlt
    subst ea
    generalize hxe : l[i]'hlt = o at *
    refine jnt ?_; refine jc_true rfl ?_; refine jc_skip ?_; refine jq_then ?_; refine jc_seq ?_; refine jc_block ?_; refine jsr ?_; (iterate 3 refine jz ?_); refine jy (y_load_old rfl h List.not_mem_nil) ?_; refine jz ?_; refine jy (y_indexAddr_slice (off := oo + i * 9) rfl rfl (by omega) (by omega) (by omega)) ?_; refine jz ?_; refine jy (y_load_old rfl (hold 1 _ rfl) (by simp)) ?_; refine jz ?_; refine jy (y_eql rfl rfl) ?_; refine jl_prop (fun h24 => ?_) (fun h24 => ?_)
    ·first | (exfalso; omega) | (refine jnt ?_; refine jc_true rfl ?_; refine jsr ?_; (iterate 2 refine jz ?_); refine jnt ?_; refine jc_ret ?_; refine jq_block_ret ?_; (iterate 2 refine jq_then_ret ?_); refine jq_block_ret ?_; refine jq_then_ret ?_; refine jq_ret1 rfl rfl ?_; exact fun _ hw => ⟨by unfold findL; rw [idx_hit hno (by rw [List.getElem?_eq_getElem hlt, hxe]) (decide_eq_true (by assumption))], hw.ch⟩)
    ·first | (exfalso; omega) | (
      refine jnt ?_; refine jc_false rfl ?_; refine jc_skip ?_; refine jq_block ?_; refine jq_then ?_; refine jc_region ?_; refine jz ?_; refine jy (yaf rfl rfl) ?_; refine jz ?_; refine jl_nil ?_; refine jq_round (i := i) (i + 1) ?_ ?_ ?_
      ·omega
      ·exact ⟨rfl, rfl, lk_int rfl (by omega), trivial⟩
      ·exact fun _ h => ⟨⟨by omega, fun j z hj hz => (Nat.lt_succ_iff_lt_or_eq.1 hj).elim (fun h2 => hno j z h2 hz) (fun e => by subst e; rw [List.getElem?_eq_getElem hlt, hxe] at hz; cases hz; exact decide_eq_false (by assumption))⟩, h⟩
      )
    )
  ·first | (exfalso; omega) | (refine jnt ?_; refine jc_false rfl ?_; refine jc_exit ?_; (iterate 2 refine jq_then_exit ?_); refine jq_hit ?_; refine jq_then ?_; refine jsr ?_; refine jz ?_; refine jnt ?_; refine jc_ret ?_; refine jq_ret1 rfl rfl ?_; exact fun _ hw => ⟨by unfold findL; rw [idx_none (fun j z hj => hno j z (by omega))], hw.ch⟩)

theorem rnew16_ok (ch cl : ByteArray) (w : World) (h1 : ch.size = 16) (h2 : cl.size = 16) :
  Calls Tryz.prog 5 #[.string ch, .string cl] w fun e w' => ∃ b, e = .returned (.tuple #[.pointer (some ⟨b, 0, none⟩), .int .i64 0]) ∧ Fresh w w' (.cells b [.string ch, .string cl, .int .u64 1, .slice none 0 0]) := by
 refine calls_of (n := 18) (E := [(0, .string ch), (1, .string cl)]) (W := Hp w [] []) Tryz.func5 rfl rfl (Nat.le_of_ble_eq_true rfl) rfl (Hp.nil _ _) ?_; refine jsr ?_; (iterate 2 refine jz ?_); refine jnt ?_; refine jc_seq ?_; refine jsr ?_; refine jz ?_; refine jy (y_len_str rfl) ?_; refine jy (y_neq rfl rfl) ?_; refine jl_prop (fun h8 => ?_) (fun h8 => ?_)
 ·first | (exfalso; omega) | (refine jz ?_; (iterate 3 refine jsk ?_); refine jy (y_pick_true rfl rfl) ?_; refine jnt ?_; refine jc_true rfl ?_; refine jsr ?_; (iterate 2 refine jz ?_); refine jnt ?_; refine jc_ret ?_; refine jq_then_ret ?_; refine jq_ret2 rfl rfl rfl ?_; exact fun w' hw => ⟨b17, rfl, hw.fresh⟩)
 ·first | (exfalso; omega) | (
   (iterate 2 refine jz ?_); refine jy (y_len_str rfl) ?_; refine jy (y_neq rfl rfl) ?_; refine jl_prop (fun h12 => ?_) (fun h12 => ?_)
   ·first | (exfalso; omega) | (refine jy (y_pick_false rfl rfl) ?_; refine jnt ?_; refine jc_true rfl ?_; refine jsr ?_; (iterate 2 refine jz ?_); refine jnt ?_; refine jc_ret ?_; refine jq_then_ret ?_; refine jq_ret2 rfl rfl rfl ?_; exact fun w' hw => ⟨b17, rfl, hw.fresh⟩)
   ·first | (exfalso; omega) | (refine jy (y_pick_false rfl rfl) ?_; refine jnt ?_; refine jc_false rfl ?_; refine jc_skip ?_; refine jq_then ?_; refine jsr ?_; (iterate 2 refine jz ?_); refine jy (y_build (Built.cell rfl rfl rfl (by repeat constructor) (Built.cell rfl rfl rfl (by repeat constructor) (Built.cell rfl rfl rfl (by repeat constructor) Built.nil)))) ?_; refine jl_m rfl (by decide) rfl (m_box rfl rfl) (fun b17 => ?_); (iterate 2 refine jz ?_); refine jnt ?_; refine jc_ret ?_; refine jq_ret2 rfl rfl rfl ?_; exact fun w' hw => ⟨b17, rfl, hw.fresh⟩)
   )

theorem rnew16_bad (ch cl : ByteArray) (w : World) (h1 : ¬ (ch.size = 16 ∧ cl.size = 16)) :
  Calls Tryz.prog 5 #[.string ch, .string cl] w fun e w' => e = .returned (.tuple #[.pointer none, .int .i64 1]) ∧ Ch [] w w' := by
 refine calls_of (n := 18) (E := [(0, .string ch), (1, .string cl)]) (W := Hp w [] []) Tryz.func5 rfl rfl (Nat.le_of_ble_eq_true rfl) rfl (Hp.nil _ _) ?_; refine jsr ?_; (iterate 2 refine jz ?_); refine jnt ?_; refine jc_seq ?_; refine jsr ?_; refine jz ?_; refine jy (y_len_str rfl) ?_; refine jy (y_neq rfl rfl) ?_; refine jl_prop (fun h8 => ?_) (fun h8 => ?_)
 ·first | (exfalso; omega) | (refine jz ?_; (iterate 3 refine jsk ?_); refine jy (y_pick_true rfl rfl) ?_; refine jnt ?_; refine jc_true rfl ?_; refine jsr ?_; (iterate 2 refine jz ?_); refine jnt ?_; refine jc_ret ?_; refine jq_then_ret ?_; refine jq_ret2 rfl rfl rfl ?_; exact fun _ hw => ⟨rfl, hw.ch⟩)
 ·first | (exfalso; omega) | (
   (iterate 2 refine jz ?_); refine jy (y_len_str rfl) ?_; refine jy (y_neq rfl rfl) ?_; refine jl_prop (fun h12 => ?_) (fun h12 => ?_)
   ·first | (exfalso; omega) | (refine jy (y_pick_false rfl rfl) ?_; refine jnt ?_; refine jc_true rfl ?_; refine jsr ?_; (iterate 2 refine jz ?_); refine jnt ?_; refine jc_ret ?_; refine jq_then_ret ?_; refine jq_ret2 rfl rfl rfl ?_; exact fun _ hw => ⟨rfl, hw.ch⟩)
   ·first | (exfalso; omega) | (refine jy (y_pick_false rfl rfl) ?_; refine jnt ?_; refine jc_false rfl ?_; refine jc_skip ?_; refine jq_then ?_; refine jsr ?_; (iterate 2 refine jz ?_); refine jy (y_build (Built.cell rfl rfl rfl (by repeat constructor) (Built.cell rfl rfl rfl (by repeat constructor) (Built.cell rfl rfl rfl (by repeat constructor) Built.nil)))) ?_; refine jl_m rfl (by decide) rfl (m_box rfl rfl) (fun b17 => ?_); (iterate 2 refine jz ?_); refine jnt ?_; refine jc_ret ?_; refine jq_ret2 rfl rfl rfl ?_; exact fun _ hw => ⟨rfl, hw.ch⟩)
   )

theorem rticket16_any (o : Of) (n : Int) (w : World) :
  Calls Tryz.prog 20 #[.agg (Of.c o).toArray, .int .u64 n] w fun e w' => e = .returned (.agg (Tk.c (tkOf o n)).toArray) ∧ Ch [] w w' := by
 refine calls_of (n := 19) (E := [(0, .agg (Of.c o).toArray), (1, .int .u64 n)]) (W := Hp w [] []) Tryz.func20 rfl rfl (Nat.le_of_ble_eq_true rfl) rfl (Hp.nil _ _) ?_; refine jsr ?_; refine jl_m rfl (by decide) rfl (m_box rfl rfl) (fun b2 => ?_); refine jl_m rfl (by decide) rfl (m_alloc) (fun b4 => ?_); refine jnt ?_; refine jsr ?_; (iterate 13 refine jz ?_); refine jy (y_build (Built.cell rfl rfl rfl (by repeat constructor) (Built.cell rfl rfl rfl (by repeat constructor) (Built.cell rfl rfl rfl (by repeat constructor) (Built.cell rfl rfl rfl (by repeat constructor) (Built.cell rfl rfl rfl (by repeat constructor) (Built.cell rfl rfl rfl (by repeat constructor) (Built.cell rfl rfl rfl (by repeat constructor) Built.nil)))))))) ?_; refine jst ?_; refine jnt ?_; refine jc_ret ?_; refine jq_res (.inl rfl) rfl (rca .nil) ?_; exact fun _ hw => ⟨rfl, hw.ch⟩

theorem rmake16_any (b : Nat) (ch cl : ByteArray) (nx : Int) (ad : Option Addr) (l : List Of) (c : Nat) (w : World) (hl : l.length ≤ 1000) (h0 : Hp w (feetL [Bk.rr l ad c, .cells b [.string ch, .string cl, .int .u64 nx, .slice ad l.length c]]) [Bk.rr l ad c, .cells b [.string ch, .string cl, .int .u64 nx, .slice ad l.length c]] w) (face wins many : Int) (salt : ByteArray) (raw : Int) (h1 : fits .u64 face) (h2 : fits .u64 wins) (h3 : fits .u64 many) (h4 : fits .u64 raw) (hsz : salt.size ≤ 1000000) (hlf : ∀ x ∈ l, fits .u64 x.face) (hnx : fits .u64 nx) :
  Calls Tryz.prog 30 #[.pointer (some ⟨b, 0, none⟩), .int .u64 face, .int .u64 wins, .int .u64 many, .string salt, .int .u64 raw] w fun e w' => ∃ pr : Option Addr × Nat, e = .returned (.tuple #[.agg (Of.c (makeO ⟨ch, cl, nx, l⟩ face wins many salt raw)).toArray, .int .i64 (makeE ⟨ch, cl, nx, l⟩ face wins many salt raw)]) ∧ Hp w (feetL [Bk.rr l ad c, .cells b [.string ch, .string cl, .int .u64 nx, .slice ad l.length c]]) [Bk.rr (makeB ⟨ch, cl, nx, l⟩ face wins many salt raw).l pr.1 pr.2, Bk.h (makeB ⟨ch, cl, nx, l⟩ face wins many salt raw) b pr.1 pr.2] w' := by
 refine calls_of (n := 107) (E := [(0, .pointer (some ⟨b, 0, none⟩)), (1, .int .u64 face), (2, .int .u64 wins), (3, .int .u64 many), (4, .string salt), (5, .int .u64 raw)]) (W := Hp w (feetL [Bk.rr l ad c, .cells b [.string ch, .string cl, .int .u64 nx, .slice ad l.length c]]) [Bk.rr l ad c, .cells b [.string ch, .string cl, .int .u64 nx, .slice ad l.length c]]) Tryz.func30 rfl rfl (Nat.le_of_ble_eq_true rfl) rfl h0 ?_; refine jsr ?_; refine jl_m rfl (by decide) rfl (m_alloc) (fun b12 => ?_); refine jz ?_; refine jnt ?_; refine jsr ?_; (iterate 3 refine jz ?_); refine jpc (goes_func rfl) (fun w1 hw1 => rnominal_any _ _ _ w1 h1 h2 h3) ?_; (iterate 5 refine jz ?_); refine jnt ?_; refine jc_seq ?_; refine jsr ?_; refine jz ?_; refine jy (y_len_str rfl) ?_; refine jy (y_gtr rfl rfl) ?_; refine jl_prop (fun h30 => ?_) (fun h30 => ?_)
 ·first | (exfalso; omega) | (
   refine jz ?_; (iterate 2 refine jsk ?_); refine jy (y_pick_true rfl rfl) ?_; refine jz ?_; (iterate 2 refine jsk ?_); refine jy (y_pick_true rfl rfl) ?_; refine jnt ?_; refine jc_true rfl ?_; refine jsr ?_; refine jy (y_build Built.nil) ?_; refine jst ?_; refine jz ?_; refine jnt ?_; refine jc_ret ?_; refine jq_then_ret ?_; refine jq_res (.inl rfl) rfl (rca (.tmp rfl .nil)) ?_
   exact fun w' hw => by
    have e0 : makeE ⟨ch, cl, nx, l⟩ face wins many salt raw = (1 : Int) := by
     have eo : offE face wins many salt raw = 1 := if_pos (by omega)
     unfold makeE; rw [eo, if_neg (by decide)]
    have hn : ¬ (1 : Int) = 0 := by first | decide | assumption
    have e1 : makeB ⟨ch, cl, nx, l⟩ face wins many salt raw = ⟨ch, cl, nx, l⟩ := if_neg (by rw [e0]; exact hn)
    have e2 : makeO ⟨ch, cl, nx, l⟩ face wins many salt raw = of0 := if_neg (by rw [e0]; exact hn)
    rw [e1, e2, e0]
    exact ⟨(ad, c), rfl, (hw.part (F := [Bk.rr l ad c, .cells b [.string ch, .string cl, .int .u64 nx, .slice ad l.length c]]) (.cons del1 (.cons del1 .nil)))⟩
   )
 ·first | (exfalso; omega) | (
   (iterate 2 refine jz ?_); refine jy (y_eql rfl rfl) ?_; refine jl_prop (fun h33 => ?_) (fun h33 => ?_)
   ·first | (exfalso; omega) | (
     refine jy (y_pick_false rfl rfl) ?_; refine jz ?_; (iterate 2 refine jsk ?_); refine jy (y_pick_true rfl rfl) ?_; refine jnt ?_; refine jc_true rfl ?_; refine jsr ?_; refine jy (y_build Built.nil) ?_; refine jst ?_; refine jz ?_; refine jnt ?_; refine jc_ret ?_; refine jq_then_ret ?_; refine jq_res (.inl rfl) rfl (rca (.tmp rfl .nil)) ?_
     exact fun w' hw => by
      have e0 : makeE ⟨ch, cl, nx, l⟩ face wins many salt raw = (1 : Int) := by
       have eo : offE face wins many salt raw = 1 := if_pos (by omega)
       unfold makeE; rw [eo, if_neg (by decide)]
      have hn : ¬ (1 : Int) = 0 := by first | decide | assumption
      have e1 : makeB ⟨ch, cl, nx, l⟩ face wins many salt raw = ⟨ch, cl, nx, l⟩ := if_neg (by rw [e0]; exact hn)
      have e2 : makeO ⟨ch, cl, nx, l⟩ face wins many salt raw = of0 := if_neg (by rw [e0]; exact hn)
      rw [e1, e2, e0]
      exact ⟨(ad, c), rfl, (hw.part (F := [Bk.rr l ad c, .cells b [.string ch, .string cl, .int .u64 nx, .slice ad l.length c]]) (.cons del1 (.cons del1 .nil)))⟩
     )
   ·first | (exfalso; omega) | (
     refine jy (y_pick_false rfl rfl) ?_; (iterate 2 refine jz ?_); refine jy (y_eql rfl rfl) ?_; refine jl_prop (fun h37 => ?_) (fun h37 => ?_)
     ·first | (exfalso; omega) | (
       refine jy (y_pick_false rfl rfl) ?_; refine jnt ?_; refine jc_true rfl ?_; refine jsr ?_; refine jy (y_build Built.nil) ?_; refine jst ?_; refine jz ?_; refine jnt ?_; refine jc_ret ?_; refine jq_then_ret ?_; refine jq_res (.inl rfl) rfl (rca (.tmp rfl .nil)) ?_
       exact fun w' hw => by
        have e0 : makeE ⟨ch, cl, nx, l⟩ face wins many salt raw = (1 : Int) := by
         have eo : offE face wins many salt raw = 1 := if_pos (by omega)
         unfold makeE; rw [eo, if_neg (by decide)]
        have hn : ¬ (1 : Int) = 0 := by first | decide | assumption
        have e1 : makeB ⟨ch, cl, nx, l⟩ face wins many salt raw = ⟨ch, cl, nx, l⟩ := if_neg (by rw [e0]; exact hn)
        have e2 : makeO ⟨ch, cl, nx, l⟩ face wins many salt raw = of0 := if_neg (by rw [e0]; exact hn)
        rw [e1, e2, e0]
        exact ⟨(ad, c), rfl, (hw.part (F := [Bk.rr l ad c, .cells b [.string ch, .string cl, .int .u64 nx, .slice ad l.length c]]) (.cons del1 (.cons del1 .nil)))⟩
       )
     ·first | (exfalso; omega) | (
       refine jy (y_pick_false rfl rfl) ?_; refine jnt ?_; refine jc_false rfl ?_; refine jc_skip ?_; refine jq_then ?_; refine jsr ?_; (iterate 2 refine jz ?_); refine jpc (goes_func rfl) (fun w1 hw1 => rfair_any _ _ w1 h4 h3) ?_; (iterate 5 refine jz ?_); refine jnt ?_; refine jc_seq ?_; refine jsr ?_; refine jz ?_; refine jy (y_neq rfl rfl) ?_; refine jl_prop (fun h47 => ?_) (fun h47 => ?_)
       ·first | (exfalso; omega) | (
         refine jz ?_; (iterate 2 refine jsk ?_); refine jy (y_pick_true rfl rfl) ?_; refine jnt ?_; refine jc_true rfl ?_; refine jsr ?_; refine jy (y_build Built.nil) ?_; refine jst ?_; refine jz ?_; refine jnt ?_; refine jc_ret ?_; refine jq_then_ret ?_; refine jq_res (.inl rfl) rfl (rca (.tmp rfl .nil)) ?_
         exact fun w' hw => by
          have e0 : makeE ⟨ch, cl, nx, l⟩ face wins many salt raw = (4 : Int) := by
           have eo : offE face wins many salt raw = 4 := by unfold offE; rw [if_neg (by omega), if_pos (by omega)]
           unfold makeE; rw [eo, if_neg (by decide)]
          have hn : ¬ (4 : Int) = 0 := by first | decide | assumption
          have e1 : makeB ⟨ch, cl, nx, l⟩ face wins many salt raw = ⟨ch, cl, nx, l⟩ := if_neg (by rw [e0]; exact hn)
          have e2 : makeO ⟨ch, cl, nx, l⟩ face wins many salt raw = of0 := if_neg (by rw [e0]; exact hn)
          rw [e1, e2, e0]
          exact ⟨(ad, c), rfl, (hw.part (F := [Bk.rr l ad c, .cells b [.string ch, .string cl, .int .u64 nx, .slice ad l.length c]]) (.cons del1 (.cons del1 .nil)))⟩
         )
       ·first | (exfalso; omega) | (
         (iterate 2 refine jz ?_); refine jy (y_neq rfl rfl) ?_; refine jl_prop (fun h50 => ?_) (fun h50 => ?_)
         ·first | (exfalso; omega) | (
           refine jy (y_pick_false rfl rfl) ?_; refine jnt ?_; refine jc_true rfl ?_; refine jsr ?_; refine jy (y_build Built.nil) ?_; refine jst ?_; refine jz ?_; refine jnt ?_; refine jc_ret ?_; refine jq_then_ret ?_; refine jq_res (.inl rfl) rfl (rca (.tmp rfl .nil)) ?_
           exact fun w' hw => by
            have e0 : makeE ⟨ch, cl, nx, l⟩ face wins many salt raw = (4 : Int) := by
             have eo : offE face wins many salt raw = 4 := by unfold offE; rw [if_neg (by omega), if_pos (by omega)]
             unfold makeE; rw [eo, if_neg (by decide)]
            have hn : ¬ (4 : Int) = 0 := by first | decide | assumption
            have e1 : makeB ⟨ch, cl, nx, l⟩ face wins many salt raw = ⟨ch, cl, nx, l⟩ := if_neg (by rw [e0]; exact hn)
            have e2 : makeO ⟨ch, cl, nx, l⟩ face wins many salt raw = of0 := if_neg (by rw [e0]; exact hn)
            rw [e1, e2, e0]
            exact ⟨(ad, c), rfl, (hw.part (F := [Bk.rr l ad c, .cells b [.string ch, .string cl, .int .u64 nx, .slice ad l.length c]]) (.cons del1 (.cons del1 .nil)))⟩
           )
         ·first | (exfalso; omega) | (
           refine jy (y_pick_false rfl rfl) ?_; refine jnt ?_; refine jc_false rfl ?_; refine jc_skip ?_; refine jq_then ?_; refine jc_seq ?_; refine jsr ?_; (iterate 4 refine jz ?_); refine jy (y_len_slice rfl) ?_; refine jy (y_geq rfl rfl) ?_; refine jl_prop (fun h58 => ?_) (fun h58 => ?_)
           ·first | (exfalso; omega) | (
             refine jnt ?_; refine jc_true rfl ?_; refine jsr ?_; refine jy (y_build Built.nil) ?_; refine jst ?_; refine jz ?_; refine jnt ?_; refine jc_ret ?_; refine jq_then_ret ?_; refine jq_res (.inl rfl) rfl (rca (.tmp rfl .nil)) ?_
             exact fun w' hw => by
              have e0 : makeE ⟨ch, cl, nx, l⟩ face wins many salt raw = (9 : Int) := by
               have eo : offE face wins many salt raw = 0 := by unfold offE; rw [if_neg (by omega), if_neg (by omega)]
               unfold makeE; rw [eo, if_pos rfl]
               exact if_pos (by show 8 ≤ l.length; omega)
              have hn : ¬ (9 : Int) = 0 := by first | decide | assumption
              have e1 : makeB ⟨ch, cl, nx, l⟩ face wins many salt raw = ⟨ch, cl, nx, l⟩ := if_neg (by rw [e0]; exact hn)
              have e2 : makeO ⟨ch, cl, nx, l⟩ face wins many salt raw = of0 := if_neg (by rw [e0]; exact hn)
              rw [e1, e2, e0]
              exact ⟨(ad, c), rfl, (hw.part (F := [Bk.rr l ad c, .cells b [.string ch, .string cl, .int .u64 nx, .slice ad l.length c]]) (.cons del1 (.cons del1 .nil)))⟩
             )
           ·first | (exfalso; omega) | (
             refine jnt ?_; refine jc_false rfl ?_; refine jc_skip ?_; refine jq_then ?_; refine jsr ?_; refine jz ?_; refine jpc (goes_func rfl) (fun w1 hw1 => ropen16_any b ad l c w1 hl (CellAt.of_cells (hw1.get (A := .cells b [.string ch, .string cl, .int .u64 nx, .slice ad l.length c]) (by first | exact mem0 | exact mem1 | exact mem2 | exact mem3 | exact mem4 | exact mem5 | exact mem6)) rfl) (ElAt.of_row (c := Of.c) (fun _ => rfl) rfl (hw1.get (A := Bk.rr l ad c) (by first | exact mem0 | exact mem1 | exact mem2 | exact mem3 | exact mem4 | exact mem5 | exact mem6)))) ?_; refine jz ?_; refine jpc (goes_func rfl) (fun w1 hw1 => radd_any (openL l) face w1 (openL_range l hlf) h1) ?_; (iterate 5 refine jz ?_); refine jnt ?_; refine jc_seq ?_; refine jsr ?_; refine jz ?_; refine jy (y_neq rfl rfl) ?_; refine jl_prop (fun h68 => ?_) (fun h68 => ?_)
             ·first | (exfalso; omega) | (
               refine jnt ?_; refine jc_true rfl ?_; refine jsr ?_; refine jy (y_build Built.nil) ?_; refine jz ?_; refine jst ?_; refine jz ?_; refine jnt ?_; refine jc_ret ?_; refine jq_then_ret ?_; refine jq_res (.inl rfl) rfl (rca (.tmp rfl .nil)) ?_
               exact fun w' hw => by
                have e0 : makeE ⟨ch, cl, nx, l⟩ face wins many salt raw = addE (openL l) face := by
                 have eo : offE face wins many salt raw = 0 := by unfold offE; rw [if_neg (by omega), if_neg (by omega)]
                 unfold makeE; rw [eo, if_pos rfl]
                 exact if_neg (by show ¬ 8 ≤ l.length; omega)
                have hn : ¬ addE (openL l) face = 0 := by first | decide | assumption
                have e1 : makeB ⟨ch, cl, nx, l⟩ face wins many salt raw = ⟨ch, cl, nx, l⟩ := if_neg (by rw [e0]; exact hn)
                have e2 : makeO ⟨ch, cl, nx, l⟩ face wins many salt raw = of0 := if_neg (by rw [e0]; exact hn)
                rw [e1, e2, e0]
                exact ⟨(ad, c), rfl, (hw.part (F := [Bk.rr l ad c, .cells b [.string ch, .string cl, .int .u64 nx, .slice ad l.length c]]) (.cons del1 (.cons del1 .nil)))⟩
               )
             ·first | (exfalso; omega) | (
               refine jnt ?_; refine jc_false rfl ?_; refine jc_skip ?_; refine jq_then ?_; refine jc_seq ?_
               have hfr := fairV_fits raw many h4
               refine jc_tree 18 (.step 0 true (.step 1 true (.step 2 true (.step 3 true (.step 4 true (.step 5 true (.step 6 true (.step 7 true (.step 8 true (.step 9 true (.step 10 true (.step 11 true (.step 12 true (.step 14 true (.step 15 true (.fork 13 (.step 16 true (.step 17 false .nil)) 17 (.step 13 false (.step 16 true .nil)))))))))))))))))) (by kernel_rfl) (fun _ _ _ _ h => h) (fun _ h => h.drew) ?_
               simp only [List.drop_succ_cons, List.drop_zero]
               refine jf_take rfl rfl (by decide) rfl (y_move rfl) ?_
               first | refine jf_take rfl rfl (by decide) rfl (y_nilCheck rfl) ?_ | refine jf_take rfl rfl (by decide) rfl (y_nilCheck_func rfl) ?_
               refine jf_take rfl rfl (by decide) rfl (y_fieldAddr rfl) ?_
               first | refine jf_take rfl rfl (by decide) rfl (y_load rfl (by first | exact mem0 | exact mem1 | exact mem2 | exact mem3 | exact mem4 | exact mem5) rfl) ?_ | refine jf_take rfl rfl (by decide) rfl (y_load_row rfl (by first | exact mem0 | exact mem1 | exact mem2 | exact mem3 | exact mem4 | exact mem5) rfl) ?_ | refine jf_take rfl rfl (by decide) rfl (y_load_old rfl (by assumption) (by simp)) ?_
               refine jf_take rfl rfl (by decide) rfl (y_move rfl) ?_
               first | refine jf_take rfl rfl (by decide) rfl (y_nilCheck rfl) ?_ | refine jf_take rfl rfl (by decide) rfl (y_nilCheck_func rfl) ?_
               refine jf_take rfl rfl (by decide) rfl (y_fieldAddr rfl) ?_
               first | refine jf_take rfl rfl (by decide) rfl (y_load rfl (by first | exact mem0 | exact mem1 | exact mem2 | exact mem3 | exact mem4 | exact mem5) rfl) ?_ | refine jf_take rfl rfl (by decide) rfl (y_load_row rfl (by first | exact mem0 | exact mem1 | exact mem2 | exact mem3 | exact mem4 | exact mem5) rfl) ?_ | refine jf_take rfl rfl (by decide) rfl (y_load_old rfl (by assumption) (by simp)) ?_
               (iterate 7 refine jf_take rfl rfl (by decide) rfl (y_move rfl) ?_); refine jf_fork ?_ ?_
               ·skip
                refine jf_pcall (by intro _ h; first | exact h | exact h.pop | exact h.pop.pop | exact h.pop.pop.pop | exact h.pop.pop.pop.pop | exact h.pop.pop.pop.pop.pop | exact h.pop.pop.pop.pop.pop.pop | exact h.part .nil) rfl rfl (by decide) rfl (goes_func rfl) (fun w1 hw1 => pcall hw1 (rcommit_any _ _ w1 (by omega) hfr)) ?_; refine jf_take rfl rfl (by decide) rfl (y_build (Built.cell rfl rfl rfl (by repeat constructor) (Built.cell rfl rfl rfl (by repeat constructor) (Built.cell rfl rfl rfl (by repeat constructor) (Built.cell rfl rfl rfl (by repeat constructor) (Built.cell rfl rfl rfl (by repeat constructor) (Built.cell rfl rfl rfl (by repeat constructor) (Built.cell rfl rfl rfl (by repeat constructor) (Built.cell rfl rfl rfl (by repeat constructor) Built.nil))))))))) ?_; refine jf_m (by intros; rename_i h; first | exact h | exact h.pop | exact h.pop.pop | exact h.pop.pop.pop | exact h.pop.pop.pop.pop | exact h.pop.pop.pop.pop.pop | exact h.pop.pop.pop.pop.pop.pop | exact h.part .nil) rfl rfl (by decide) rfl (m_alloc) (fun b20 => ?_); refine jf_nil ?_; refine jst ?_; refine jnt ?_; refine jsr ?_; (iterate 5 refine jz ?_); refine jy (y_add_u64 rfl rfl) ?_; (iterate 2 refine jz ?_); refine jst ?_; refine jnt ?_; refine jc_seq ?_; refine jc_schedC (Hp w (feetL [Bk.rr l ad c, .cells b [.string ch, .string cl, .int .u64 nx, .slice ad l.length c]]) [.cells b20 (Of.c (newO ⟨ch, cl, nx, l⟩ face wins many salt raw)), .cells b [.string ch, .string cl, .int .u64 ((nx + 1) % 18446744073709551616), .slice ad l.length c]]) 10 [(0, true), (1, true), (2, true), (3, true), (4, true), (5, true), (6, false), (7, false), (8, true), (9, true)] rfl (by kernel_rfl) (fun _ _ _ _ h => h) (fun _ h => (h.part (.cons (by first | exact del0 | exact del1 | exact del2 | exact del3 | exact del4 | exact del5) (.cons (by first | exact del0 | exact del1 | exact del2 | exact del3 | exact del4 | exact del5) .nil))).drew) (fun _ h => h.drew) ?_
                simp only [pickO, nthO, List.drop_succ_cons, List.drop_zero]
                (iterate 6 refine jkz ?_); refine js_m (by intros; rename_i h; exact h.part (.cons (by first | exact del0 | exact del1 | exact del2 | exact del3 | exact del4 | exact del5) (.cons (by first | exact del0 | exact del1 | exact del2 | exact del3 | exact del4 | exact del5) .nil))) rfl (by decide) rfl (m_buildSlice (size := 9) (by decide) (Built.agg rfl rfl rfl (by repeat constructor) Built.nil)) (fun b102 => ?_); refine js_m2z rfl (by decide) rfl (m_append rfl rfl (by first | exact del0 | exact del1 | exact del2 | exact del3 | exact del4) (by first | exact del0 | exact del1 | exact del2 | exact del3 | exact del4) rfl (by omega) (by omega)) (by intros; rename_i h; exact h.part (.cons (by first | exact del0 | exact del1 | exact del2 | exact del3 | exact del4 | exact del5) (.cons (by first | exact del0 | exact del1 | exact del2 | exact del3 | exact del4 | exact del5) .nil))) (fun a103 c103 => ?_); (iterate 2 refine jkz ?_); refine js_nil ?_; refine jst ?_; refine jnt ?_; refine jsr ?_; refine jz ?_; refine jst ?_; refine jz ?_; refine jnt ?_; refine jc_ret ?_; refine jq_res (.inl rfl) rfl (rca (.tmp rfl .nil)) ?_
                exact fun w' hw => by
                 have e0 : makeE ⟨ch, cl, nx, l⟩ face wins many salt raw = 0 := by
                  have eo : offE face wins many salt raw = 0 := by unfold offE; rw [if_neg (by omega), if_neg (by omega)]
                  unfold makeE; rw [eo, if_pos rfl]
                  unfold roomE; rw [if_neg (by show ¬ 8 ≤ l.length; omega)]
                  exact Decidable.not_not.1 (by assumption)
                 have e1 : makeB ⟨ch, cl, nx, l⟩ face wins many salt raw = ⟨ch, cl, (nx + 1) % 18446744073709551616, l ++ [newO ⟨ch, cl, nx, l⟩ face wins many salt raw]⟩ := if_pos e0
                 have e2 : makeO ⟨ch, cl, nx, l⟩ face wins many salt raw = newO ⟨ch, cl, nx, l⟩ face wins many salt raw := if_pos e0
                 rw [e1, e2, e0]
                 refine ⟨(a103, c103), rfl, (hw.part (F := [.row a103 (l.length + 1) c103 55 9 (l.flatMap Of.c ++ Of.c (newO ⟨ch, cl, nx, l⟩ face wins many salt raw)), .cells b [.string ch, .string cl, .int .u64 ((nx + 1) % 18446744073709551616), .slice a103 (l.length + 1) c103]]) (.cons del0 (.cons del2 .nil))).cast ?_⟩
                 show _ = [Bk.rr (l ++ [newO ⟨ch, cl, nx, l⟩ face wins many salt raw]) a103 c103, .cells b [.string ch, .string cl, .int .u64 ((nx + 1) % 18446744073709551616), .slice a103 (l ++ [newO ⟨ch, cl, nx, l⟩ face wins many salt raw]).length c103]]
                 unfold Bk.rr
                 rw [List.length_append, List.flatMap_append] <;> rfl
               ·skip
                refine jf_m (by intros; rename_i h; first | exact h | exact h.pop | exact h.pop.pop | exact h.pop.pop.pop | exact h.pop.pop.pop.pop | exact h.pop.pop.pop.pop.pop | exact h.pop.pop.pop.pop.pop.pop | exact h.part .nil) rfl rfl (by decide) rfl (m_alloc) (fun b20 => ?_); refine jf_pcall (by intro _ h; first | exact h | exact h.pop | exact h.pop.pop | exact h.pop.pop.pop | exact h.pop.pop.pop.pop | exact h.pop.pop.pop.pop.pop | exact h.pop.pop.pop.pop.pop.pop | exact h.part .nil) rfl rfl (by decide) rfl (goes_func rfl) (fun w1 hw1 => pcall hw1 (rcommit_any _ _ w1 (by omega) hfr)) ?_; refine jf_take rfl rfl (by decide) rfl (y_build (Built.cell rfl rfl rfl (by repeat constructor) (Built.cell rfl rfl rfl (by repeat constructor) (Built.cell rfl rfl rfl (by repeat constructor) (Built.cell rfl rfl rfl (by repeat constructor) (Built.cell rfl rfl rfl (by repeat constructor) (Built.cell rfl rfl rfl (by repeat constructor) (Built.cell rfl rfl rfl (by repeat constructor) (Built.cell rfl rfl rfl (by repeat constructor) Built.nil))))))))) ?_; refine jf_nil ?_; refine jst ?_; refine jnt ?_; refine jsr ?_; (iterate 5 refine jz ?_); refine jy (y_add_u64 rfl rfl) ?_; (iterate 2 refine jz ?_); refine jst ?_; refine jnt ?_; refine jc_seq ?_; refine jc_schedC (Hp w (feetL [Bk.rr l ad c, .cells b [.string ch, .string cl, .int .u64 nx, .slice ad l.length c]]) [.cells b20 (Of.c (newO ⟨ch, cl, nx, l⟩ face wins many salt raw)), .cells b [.string ch, .string cl, .int .u64 ((nx + 1) % 18446744073709551616), .slice ad l.length c]]) 10 [(0, true), (1, true), (2, true), (3, true), (4, true), (5, true), (6, false), (7, false), (8, true), (9, true)] rfl (by kernel_rfl) (fun _ _ _ _ h => h) (fun _ h => (h.part (.cons (by first | exact del0 | exact del1 | exact del2 | exact del3 | exact del4 | exact del5) (.cons (by first | exact del0 | exact del1 | exact del2 | exact del3 | exact del4 | exact del5) .nil))).drew) (fun _ h => h.drew) ?_
                simp only [pickO, nthO, List.drop_succ_cons, List.drop_zero]
                (iterate 6 refine jkz ?_); refine js_m (by intros; rename_i h; exact h.part (.cons (by first | exact del0 | exact del1 | exact del2 | exact del3 | exact del4 | exact del5) (.cons (by first | exact del0 | exact del1 | exact del2 | exact del3 | exact del4 | exact del5) .nil))) rfl (by decide) rfl (m_buildSlice (size := 9) (by decide) (Built.agg rfl rfl rfl (by repeat constructor) Built.nil)) (fun b102 => ?_); refine js_m2z rfl (by decide) rfl (m_append rfl rfl (by first | exact del0 | exact del1 | exact del2 | exact del3 | exact del4) (by first | exact del0 | exact del1 | exact del2 | exact del3 | exact del4) rfl (by omega) (by omega)) (by intros; rename_i h; exact h.part (.cons (by first | exact del0 | exact del1 | exact del2 | exact del3 | exact del4 | exact del5) (.cons (by first | exact del0 | exact del1 | exact del2 | exact del3 | exact del4 | exact del5) .nil))) (fun a103 c103 => ?_); (iterate 2 refine jkz ?_); refine js_nil ?_; refine jst ?_; refine jnt ?_; refine jsr ?_; refine jz ?_; refine jst ?_; refine jz ?_; refine jnt ?_; refine jc_ret ?_; refine jq_res (.inl rfl) rfl (rca (.tmp rfl .nil)) ?_
                exact fun w' hw => by
                 have e0 : makeE ⟨ch, cl, nx, l⟩ face wins many salt raw = 0 := by
                  have eo : offE face wins many salt raw = 0 := by unfold offE; rw [if_neg (by omega), if_neg (by omega)]
                  unfold makeE; rw [eo, if_pos rfl]
                  unfold roomE; rw [if_neg (by show ¬ 8 ≤ l.length; omega)]
                  exact Decidable.not_not.1 (by assumption)
                 have e1 : makeB ⟨ch, cl, nx, l⟩ face wins many salt raw = ⟨ch, cl, (nx + 1) % 18446744073709551616, l ++ [newO ⟨ch, cl, nx, l⟩ face wins many salt raw]⟩ := if_pos e0
                 have e2 : makeO ⟨ch, cl, nx, l⟩ face wins many salt raw = newO ⟨ch, cl, nx, l⟩ face wins many salt raw := if_pos e0
                 rw [e1, e2, e0]
                 refine ⟨(a103, c103), rfl, (hw.part (F := [.row a103 (l.length + 1) c103 55 9 (l.flatMap Of.c ++ Of.c (newO ⟨ch, cl, nx, l⟩ face wins many salt raw)), .cells b [.string ch, .string cl, .int .u64 ((nx + 1) % 18446744073709551616), .slice a103 (l.length + 1) c103]]) (.cons del0 (.cons del2 .nil))).cast ?_⟩
                 show _ = [Bk.rr (l ++ [newO ⟨ch, cl, nx, l⟩ face wins many salt raw]) a103 c103, .cells b [.string ch, .string cl, .int .u64 ((nx + 1) % 18446744073709551616), .slice a103 (l ++ [newO ⟨ch, cl, nx, l⟩ face wins many salt raw]).length c103]]
                 unfold Bk.rr
                 rw [List.length_append, List.flatMap_append] <;> rfl
               )
             )
           )
         )
       )
     )
   )

theorem rgone16_any (b : Nat) (ch cl : ByteArray) (nx : Int) (ad : Option Addr) (l : List Of) (c : Nat) (w : World) (hl : l.length ≤ 1000) (h0 : Hp w (feetL [Bk.rr l ad c, .cells b [.string ch, .string cl, .int .u64 nx, .slice ad l.length c]]) [Bk.rr l ad c, .cells b [.string ch, .string cl, .int .u64 nx, .slice ad l.length c]] w) (s : Int) :
  Calls Tryz.prog 35 #[.pointer (some ⟨b, 0, none⟩), .int .u64 s] w fun e w' => ∃ pr : Option Addr × Nat, e = .returned (.int .i64 (goneE ⟨ch, cl, nx, l⟩ s)) ∧ Hp w (feetL [Bk.rr l ad c, .cells b [.string ch, .string cl, .int .u64 nx, .slice ad l.length c]]) [Bk.rr (goneB ⟨ch, cl, nx, l⟩ s).l pr.1 pr.2, Bk.h (goneB ⟨ch, cl, nx, l⟩ s) b pr.1 pr.2] w' := by
 have hr := find_range l s
 have hcap := row_cap (h0.get mem0)
 refine calls_of (n := 33) (E := [(0, .pointer (some ⟨b, 0, none⟩)), (1, .int .u64 s)]) (W := Hp w (feetL [Bk.rr l ad c, .cells b [.string ch, .string cl, .int .u64 nx, .slice ad l.length c]]) [Bk.rr l ad c, .cells b [.string ch, .string cl, .int .u64 nx, .slice ad l.length c]]) Tryz.func35 rfl rfl (Nat.le_of_ble_eq_true rfl) rfl h0 ?_; refine jsr ?_; refine jz ?_; refine jnt ?_; refine jsr ?_; (iterate 2 refine jz ?_); refine jpc (goes_func rfl) (fun w1 hw1 => rfind16_any b ad l c w1 hl (CellAt.of_cells (hw1.get (A := .cells b [.string ch, .string cl, .int .u64 nx, .slice ad l.length c]) (by first | exact mem0 | exact mem1 | exact mem2 | exact mem3 | exact mem4 | exact mem5 | exact mem6)) rfl) (ElAt.of_row (c := Of.c) (fun _ => rfl) rfl (hw1.get (A := Bk.rr l ad c) (by first | exact mem0 | exact mem1 | exact mem2 | exact mem3 | exact mem4 | exact mem5 | exact mem6))) s) ?_; refine jz ?_; refine jnt ?_; refine jc_seq ?_; refine jsr ?_; refine jz ?_; refine jy (y_lss rfl rfl) ?_; refine jl_prop (fun h11 => ?_) (fun h11 => ?_)
 ·first | (exfalso; omega) | (
   refine jnt ?_; refine jc_true rfl ?_; refine jsr ?_; refine jz ?_; refine jnt ?_; refine jc_ret ?_; refine jq_then_ret ?_; refine jq_ret1 rfl rfl ?_
   exact fun w' hw => by
    have e : goneB ⟨ch, cl, nx, l⟩ s = ⟨ch, cl, nx, l⟩ ∧ goneE ⟨ch, cl, nx, l⟩ s = 6 := ⟨if_pos (by show findL l s < 0; omega), if_pos (by show findL l s < 0; omega)⟩
    rw [e.1, e.2]
    exact ⟨(ad, c), rfl, (hw.part (F := [Bk.rr l ad c, .cells b [.string ch, .string cl, .int .u64 nx, .slice ad l.length c]]) (.cons (by first | exact del0 | exact del1 | exact del2 | exact del3 | exact del4 | exact del5) (.cons (by first | exact del0 | exact del1 | exact del2 | exact del3 | exact del4 | exact del5) .nil)))⟩
   )
 ·first | (exfalso; omega) | (
   refine jnt ?_; refine jc_false rfl ?_; refine jc_skip ?_; refine jq_then ?_; refine jc_seq ?_
   obtain ⟨i, hi⟩ : ∃ i : Nat, findL l s = (i : Int) := ⟨(findL l s).toNat, by omega⟩
   have hlt : i < l.length := by omega
   refine jc_pure (fun _ hw => row_some (ad := ad) (hw.get (A := Bk.rr l ad c) (by first | exact mem0 | exact mem1 | exact mem2 | exact mem3 | exact mem4 | exact mem5 | exact mem6)) (by omega)) (fun hps => ?_)
   obtain ⟨bb, hbb⟩ := hps
   obtain ⟨src, hs1, hs2⟩ := sub_src bb c (i + 1)
   refine jc_region ?_; refine jl_m rfl (by decide) rfl (m_buildSlice (size := 9) (by decide) Built.nil) (fun b12 => ?_); (iterate 4 refine jz ?_); refine jl_as (u := .slice (some ⟨bb, 0, none⟩) l.length c) (by rw [hbb]) ?_; refine jz ?_; refine jy (y_sl_hi rfl rfl (by omega) (by omega)) ?_; refine jl_as (u := .slice (some ⟨bb, 0, none⟩) i c) (by rw [hi]; rfl) ?_
   refine jl_m2 rfl (by decide) rfl (m_append_of (src := ⟨bb, 0, none⟩) (news := (l.take i).flatMap Of.c) rfl rfl del0 (by rw [flat_len (n := 9) (c := Of.c) (fun _ => rfl), List.length_take, Nat.min_eq_left (by omega)]) (fun w2 hw2 j u hj => by
     rw [addr_add, Nat.zero_add]
     exact row_cell (show HA.ok w2 (.row (some ⟨bb, 0, none⟩) l.length c 55 9 (l.flatMap Of.c)) by rw [← hbb]; exact hw2.get (A := Bk.rr l ad c) (by first | exact mem0 | exact mem1 | exact mem2 | exact mem3 | exact mem4 | exact mem5 | exact mem6)) (take_cell hj)) (flat_one (c := Of.c) (fun _ => rfl) _) (by omega) (by omega)) (fun a19 c19 => ?_)
   refine jz ?_; refine jnt ?_; refine jsr ?_; (iterate 5 refine jz ?_); refine jl_as (u := .slice (some ⟨bb, 0, none⟩) l.length c) (by rw [hbb]) ?_; refine jz ?_; refine jy (yaf rfl rfl) ?_; refine jl_as (u := .int .i64 ((i + 1 : Nat) : Int)) (congrArg (Value.int .i64) (by omega)) ?_; refine jy (y_sl_lo rfl rfl (by omega) (by omega)) ?_; refine jl_as (u := .slice (some src) (l.length - (i + 1)) (c - (i + 1))) (by rw [← hs1]; rfl) ?_
   refine jl_m2 rfl (by decide) rfl (m_append_of (src := src) (news := (l.drop (i + 1)).flatMap Of.c) rfl rfl del0 (by rw [flat_len (n := 9) (c := Of.c) (fun _ => rfl), List.length_drop]) (fun w2 hw2 j u hj => by
     have hlt : i + 1 ≠ c := fun e => by rw [List.drop_eq_nil_of_le (by omega)] at hj; cases hj
     rw [hs2 hlt, addr_add]
     exact row_drop (show HA.ok w2 (.row (some ⟨bb, 0, none⟩) l.length c 55 9 (l.flatMap Of.c)) by rw [← hbb]; exact hw2.get (A := Bk.rr l ad c) (by first | exact mem0 | exact mem1 | exact mem2 | exact mem3 | exact mem4 | exact mem5 | exact mem6)) hj) (flat_one (c := Of.c) (fun _ => rfl) _) (by omega) (by omega)) (fun a28 c28 => ?_)
   refine jz ?_; refine jnt ?_; refine jsr ?_; (iterate 4 refine jz ?_); refine jst ?_; refine jnt ?_; refine jsr ?_; refine jz ?_; refine jnt ?_; refine jc_ret ?_; refine jq_ret1 rfl rfl ?_
   exact fun w' hw => by
    have e : goneB ⟨ch, cl, nx, l⟩ s = ⟨ch, cl, nx, l.eraseIdx i⟩ := by
     unfold goneB; rw [if_neg (by show ¬ findL l s < 0; omega)]; show Bk.mk _ _ _ (l.eraseIdx (findL l s).toNat) = _; rw [hi]; rfl
    have e1 : goneE ⟨ch, cl, nx, l⟩ s = 0 := if_neg (by show ¬ findL l s < 0; omega)
    have e2 : (l.eraseIdx i).length = 0 + i + (l.length - (i + 1)) := by rw [List.length_eraseIdx_of_lt (by omega)]; omega
    rw [e, e1]
    refine ⟨(a28, c28), rfl, (hw.part (F := [.row a28 (0 + i + (l.length - (i + 1))) c28 55 9 ([] ++ (l.take i).flatMap Of.c ++ (l.drop (i + 1)).flatMap Of.c), .cells b [.string ch, .string cl, .int .u64 nx, .slice a28 (0 + i + (l.length - (i + 1))) c28]]) (.cons del0 (.cons del1 .nil))).cast ?_⟩
    show _ = [Bk.rr (l.eraseIdx i) a28 c28, .cells b [.string ch, .string cl, .int .u64 nx, .slice a28 (l.eraseIdx i).length c28]]
    unfold Bk.rr
    rw [e2, List.nil_append, ← List.flatMap_append, ← List.eraseIdx_eq_take_drop_succ]
   )

theorem rput16_any (b : Nat) (ch cl : ByteArray) (nx : Int) (ad : Option Addr) (l : List Of) (c : Nat) (w : World) (hl : l.length ≤ 1000) (h0 : Hp w (feetL [Bk.rr l ad c, .cells b [.string ch, .string cl, .int .u64 nx, .slice ad l.length c]]) [Bk.rr l ad c, .cells b [.string ch, .string cl, .int .u64 nx, .slice ad l.length c]] w) (o : Of) (hf : o.Fit) (hsz : o.salt.size ≤ 1000000) (hlf : ∀ x ∈ l, fits .u64 x.face) (hnx : fits .u64 nx) :
  Calls Tryz.prog 37 #[.pointer (some ⟨b, 0, none⟩), .agg (Of.c o).toArray] w fun e w' => ∃ pr : Option Addr × Nat, e = .returned (.int .i64 (putE ⟨ch, cl, nx, l⟩ o)) ∧ Hp w (feetL [Bk.rr l ad c, .cells b [.string ch, .string cl, .int .u64 nx, .slice ad l.length c]]) [Bk.rr (putB ⟨ch, cl, nx, l⟩ o).l pr.1 pr.2, Bk.h (putB ⟨ch, cl, nx, l⟩ o) b pr.1 pr.2] w' := by
 have hr := find_range l o.serial
 have hf1 := hf.face
 have hf2 := hf.serial
 have hf3 := hf.wins
 have hf4 := hf.many
 have hf5 := hf.drawn
 have hf6 := hf1
 have hf7 := hf2
 simp only [fits] at hf6 hf7
 refine calls_of (n := 125) (E := [(0, .pointer (some ⟨b, 0, none⟩)), (1, .agg (Of.c o).toArray)]) (W := Hp w (feetL [Bk.rr l ad c, .cells b [.string ch, .string cl, .int .u64 nx, .slice ad l.length c]]) [Bk.rr l ad c, .cells b [.string ch, .string cl, .int .u64 nx, .slice ad l.length c]]) Tryz.func37 rfl rfl (Nat.le_of_ble_eq_true rfl) rfl h0 ?_; refine jsr ?_; refine jl_m rfl (by decide) rfl (m_box rfl rfl) (fun b3 => ?_); refine jz ?_; refine jnt ?_; refine jsr ?_; (iterate 6 refine jz ?_); refine jpc (goes_func rfl) (fun w1 hw1 => rnominal_any _ _ _ w1 hf1 hf3 hf4) ?_; (iterate 5 refine jz ?_); refine jnt ?_; refine jsr ?_; (iterate 6 refine jz ?_); refine jpc (goes_func rfl) (fun w1 hw1 => rwins_any _ _ _ _ w1 hf5 ⟨by decide, by decide⟩ hf3 hf4) ?_; (iterate 5 refine jz ?_); refine jnt ?_; (iterate 2 refine jc_seq ?_); refine jc_draw (by kernel_rfl) (fun _ h => h.drew) ?_; (iterate 6 refine juz ?_); refine juy (y_sneq rfl rfl) ?_; refine ju_bool (fun h37 => ?_) (fun h37 => ?_)
 ·skip
  refine juz ?_; (iterate 3 refine jus ?_); refine juy (y_pick_true rfl rfl) ?_; refine juz ?_; (iterate 3 refine jus ?_); refine juy (y_pick_true rfl rfl) ?_; refine juz ?_; (iterate 4 refine jus ?_); refine juy (y_pick_true rfl rfl) ?_; refine juz ?_; (iterate 3 refine jus ?_); refine juy (y_pick_true rfl rfl) ?_; refine juz ?_; (iterate 2 refine jus ?_); refine juy (y_pick_true rfl rfl) ?_; refine juz ?_; (iterate 2 refine jus ?_); refine juy (y_pick_true rfl rfl) ?_; refine juz ?_; (iterate 8 refine jus ?_); refine juy (y_pick_true rfl rfl) ?_; refine ju_nil ?_; refine jq_then ?_; refine jc_true rfl ?_; refine jsr ?_; refine jz ?_; refine jnt ?_; refine jc_ret ?_; refine jq_then_ret ?_; refine jq_ret1 rfl rfl ?_
  exact fun w' hw => by
   have e0 : putE ⟨ch, cl, nx, l⟩ o = (1 : Int) := by
    unfold putE
    rw [if_neg (fun hm => by
     obtain ⟨q1, q2, q3, q4, q5, q6, q7, q8⟩ := of_decide_eq_true (show decide _ = true from hm)
     first | exact not_dec h37 q1 | exact not_dec h75 q8 | omega)]
   have hn : ¬ (1 : Int) = 0 := by first | decide | assumption
   have e1 : putB ⟨ch, cl, nx, l⟩ o = ⟨ch, cl, nx, l⟩ := if_neg (by rw [e0]; exact hn)
   rw [e1, e0]
   exact ⟨(ad, c), rfl, (hw.part (F := [Bk.rr l ad c, .cells b [.string ch, .string cl, .int .u64 nx, .slice ad l.length c]]) (.cons (by first | exact del0 | exact del1 | exact del2 | exact del3 | exact del4 | exact del5) (.cons (by first | exact del0 | exact del1 | exact del2 | exact del3 | exact del4 | exact del5) .nil)))⟩
 ·skip
  (iterate 3 refine juz ?_); refine juy (y_lss rfl rfl) ?_; refine ju_prop (fun h41 => ?_) (fun h41 => ?_)
  ·first | (exfalso; omega) | (
    refine juy (y_pick_false rfl rfl) ?_; refine juz ?_; (iterate 3 refine jus ?_); refine juy (y_pick_true rfl rfl) ?_; refine juz ?_; (iterate 4 refine jus ?_); refine juy (y_pick_true rfl rfl) ?_; refine juz ?_; (iterate 3 refine jus ?_); refine juy (y_pick_true rfl rfl) ?_; refine juz ?_; (iterate 2 refine jus ?_); refine juy (y_pick_true rfl rfl) ?_; refine juz ?_; (iterate 2 refine jus ?_); refine juy (y_pick_true rfl rfl) ?_; refine juz ?_; (iterate 8 refine jus ?_); refine juy (y_pick_true rfl rfl) ?_; refine ju_nil ?_; refine jq_then ?_; refine jc_true rfl ?_; refine jsr ?_; refine jz ?_; refine jnt ?_; refine jc_ret ?_; refine jq_then_ret ?_; refine jq_ret1 rfl rfl ?_
    exact fun w' hw => by
     have e0 : putE ⟨ch, cl, nx, l⟩ o = (1 : Int) := by
      unfold putE
      rw [if_neg (fun hm => by
       obtain ⟨q1, q2, q3, q4, q5, q6, q7, q8⟩ := of_decide_eq_true (show decide _ = true from hm)
       first | exact not_dec h37 q1 | exact not_dec h75 q8 | omega)]
     have hn : ¬ (1 : Int) = 0 := by first | decide | assumption
     have e1 : putB ⟨ch, cl, nx, l⟩ o = ⟨ch, cl, nx, l⟩ := if_neg (by rw [e0]; exact hn)
     rw [e1, e0]
     exact ⟨(ad, c), rfl, (hw.part (F := [Bk.rr l ad c, .cells b [.string ch, .string cl, .int .u64 nx, .slice ad l.length c]]) (.cons (by first | exact del0 | exact del1 | exact del2 | exact del3 | exact del4 | exact del5) (.cons (by first | exact del0 | exact del1 | exact del2 | exact del3 | exact del4 | exact del5) .nil)))⟩
    )
  ·first | (exfalso; omega) | (
    refine juy (y_pick_false rfl rfl) ?_; (iterate 3 refine juz ?_); refine juy (y_gtr rfl rfl) ?_; refine ju_prop (fun h46 => ?_) (fun h46 => ?_)
    ·first | (exfalso; omega) | (
      refine juy (y_pick_false rfl rfl) ?_; refine juz ?_; (iterate 4 refine jus ?_); refine juy (y_pick_true rfl rfl) ?_; refine juz ?_; (iterate 3 refine jus ?_); refine juy (y_pick_true rfl rfl) ?_; refine juz ?_; (iterate 2 refine jus ?_); refine juy (y_pick_true rfl rfl) ?_; refine juz ?_; (iterate 2 refine jus ?_); refine juy (y_pick_true rfl rfl) ?_; refine juz ?_; (iterate 8 refine jus ?_); refine juy (y_pick_true rfl rfl) ?_; refine ju_nil ?_; refine jq_then ?_; refine jc_true rfl ?_; refine jsr ?_; refine jz ?_; refine jnt ?_; refine jc_ret ?_; refine jq_then_ret ?_; refine jq_ret1 rfl rfl ?_
      exact fun w' hw => by
       have e0 : putE ⟨ch, cl, nx, l⟩ o = (1 : Int) := by
        unfold putE
        rw [if_neg (fun hm => by
         obtain ⟨q1, q2, q3, q4, q5, q6, q7, q8⟩ := of_decide_eq_true (show decide _ = true from hm)
         first | exact not_dec h37 q1 | exact not_dec h75 q8 | omega)]
       have hn : ¬ (1 : Int) = 0 := by first | decide | assumption
       have e1 : putB ⟨ch, cl, nx, l⟩ o = ⟨ch, cl, nx, l⟩ := if_neg (by rw [e0]; exact hn)
       rw [e1, e0]
       exact ⟨(ad, c), rfl, (hw.part (F := [Bk.rr l ad c, .cells b [.string ch, .string cl, .int .u64 nx, .slice ad l.length c]]) (.cons (by first | exact del0 | exact del1 | exact del2 | exact del3 | exact del4 | exact del5) (.cons (by first | exact del0 | exact del1 | exact del2 | exact del3 | exact del4 | exact del5) .nil)))⟩
      )
    ·first | (exfalso; omega) | (
      refine juy (y_pick_false rfl rfl) ?_; (iterate 3 refine juz ?_); refine juy (y_len_str rfl) ?_; refine juy (y_gtr rfl rfl) ?_; refine ju_prop (fun h52 => ?_) (fun h52 => ?_)
      ·first | (exfalso; omega) | (
        refine juy (y_pick_false rfl rfl) ?_; refine juz ?_; (iterate 3 refine jus ?_); refine juy (y_pick_true rfl rfl) ?_; refine juz ?_; (iterate 2 refine jus ?_); refine juy (y_pick_true rfl rfl) ?_; refine juz ?_; (iterate 2 refine jus ?_); refine juy (y_pick_true rfl rfl) ?_; refine juz ?_; (iterate 8 refine jus ?_); refine juy (y_pick_true rfl rfl) ?_; refine ju_nil ?_; refine jq_then ?_; refine jc_true rfl ?_; refine jsr ?_; refine jz ?_; refine jnt ?_; refine jc_ret ?_; refine jq_then_ret ?_; refine jq_ret1 rfl rfl ?_
        exact fun w' hw => by
         have e0 : putE ⟨ch, cl, nx, l⟩ o = (1 : Int) := by
          unfold putE
          rw [if_neg (fun hm => by
           obtain ⟨q1, q2, q3, q4, q5, q6, q7, q8⟩ := of_decide_eq_true (show decide _ = true from hm)
           first | exact not_dec h37 q1 | exact not_dec h75 q8 | omega)]
         have hn : ¬ (1 : Int) = 0 := by first | decide | assumption
         have e1 : putB ⟨ch, cl, nx, l⟩ o = ⟨ch, cl, nx, l⟩ := if_neg (by rw [e0]; exact hn)
         rw [e1, e0]
         exact ⟨(ad, c), rfl, (hw.part (F := [Bk.rr l ad c, .cells b [.string ch, .string cl, .int .u64 nx, .slice ad l.length c]]) (.cons (by first | exact del0 | exact del1 | exact del2 | exact del3 | exact del4 | exact del5) (.cons (by first | exact del0 | exact del1 | exact del2 | exact del3 | exact del4 | exact del5) .nil)))⟩
        )
      ·first | (exfalso; omega) | (
        refine juy (y_pick_false rfl rfl) ?_; (iterate 3 refine juz ?_); refine juy (y_eql rfl rfl) ?_; refine ju_prop (fun h57 => ?_) (fun h57 => ?_)
        ·first | (exfalso; omega) | (
          refine juy (y_pick_false rfl rfl) ?_; refine juz ?_; (iterate 2 refine jus ?_); refine juy (y_pick_true rfl rfl) ?_; refine juz ?_; (iterate 2 refine jus ?_); refine juy (y_pick_true rfl rfl) ?_; refine juz ?_; (iterate 8 refine jus ?_); refine juy (y_pick_true rfl rfl) ?_; refine ju_nil ?_; refine jq_then ?_; refine jc_true rfl ?_; refine jsr ?_; refine jz ?_; refine jnt ?_; refine jc_ret ?_; refine jq_then_ret ?_; refine jq_ret1 rfl rfl ?_
          exact fun w' hw => by
           have e0 : putE ⟨ch, cl, nx, l⟩ o = (1 : Int) := by
            unfold putE
            rw [if_neg (fun hm => by
             obtain ⟨q1, q2, q3, q4, q5, q6, q7, q8⟩ := of_decide_eq_true (show decide _ = true from hm)
             first | exact not_dec h37 q1 | exact not_dec h75 q8 | omega)]
           have hn : ¬ (1 : Int) = 0 := by first | decide | assumption
           have e1 : putB ⟨ch, cl, nx, l⟩ o = ⟨ch, cl, nx, l⟩ := if_neg (by rw [e0]; exact hn)
           rw [e1, e0]
           exact ⟨(ad, c), rfl, (hw.part (F := [Bk.rr l ad c, .cells b [.string ch, .string cl, .int .u64 nx, .slice ad l.length c]]) (.cons (by first | exact del0 | exact del1 | exact del2 | exact del3 | exact del4 | exact del5) (.cons (by first | exact del0 | exact del1 | exact del2 | exact del3 | exact del4 | exact del5) .nil)))⟩
          )
        ·first | (exfalso; omega) | (
          refine juy (y_pick_false rfl rfl) ?_; (iterate 2 refine juz ?_); refine juy (y_neq rfl rfl) ?_; refine ju_prop (fun h61 => ?_) (fun h61 => ?_)
          ·first | (exfalso; omega) | (
            refine juy (y_pick_false rfl rfl) ?_; refine juz ?_; (iterate 2 refine jus ?_); refine juy (y_pick_true rfl rfl) ?_; refine juz ?_; (iterate 8 refine jus ?_); refine juy (y_pick_true rfl rfl) ?_; refine ju_nil ?_; refine jq_then ?_; refine jc_true rfl ?_; refine jsr ?_; refine jz ?_; refine jnt ?_; refine jc_ret ?_; refine jq_then_ret ?_; refine jq_ret1 rfl rfl ?_
            exact fun w' hw => by
             have e0 : putE ⟨ch, cl, nx, l⟩ o = (1 : Int) := by
              unfold putE
              rw [if_neg (fun hm => by
               obtain ⟨q1, q2, q3, q4, q5, q6, q7, q8⟩ := of_decide_eq_true (show decide _ = true from hm)
               first | exact not_dec h37 q1 | exact not_dec h75 q8 | omega)]
             have hn : ¬ (1 : Int) = 0 := by first | decide | assumption
             have e1 : putB ⟨ch, cl, nx, l⟩ o = ⟨ch, cl, nx, l⟩ := if_neg (by rw [e0]; exact hn)
             rw [e1, e0]
             exact ⟨(ad, c), rfl, (hw.part (F := [Bk.rr l ad c, .cells b [.string ch, .string cl, .int .u64 nx, .slice ad l.length c]]) (.cons (by first | exact del0 | exact del1 | exact del2 | exact del3 | exact del4 | exact del5) (.cons (by first | exact del0 | exact del1 | exact del2 | exact del3 | exact del4 | exact del5) .nil)))⟩
            )
          ·first | (exfalso; omega) | (
            refine juy (y_pick_false rfl rfl) ?_; (iterate 2 refine juz ?_); refine juy (y_neq rfl rfl) ?_; refine ju_prop (fun h65 => ?_) (fun h65 => ?_)
            ·first | (exfalso; omega) | (
              refine juy (y_pick_false rfl rfl) ?_; refine juz ?_; (iterate 8 refine jus ?_); refine juy (y_pick_true rfl rfl) ?_; refine ju_nil ?_; refine jq_then ?_; refine jc_true rfl ?_; refine jsr ?_; refine jz ?_; refine jnt ?_; refine jc_ret ?_; refine jq_then_ret ?_; refine jq_ret1 rfl rfl ?_
              exact fun w' hw => by
               have e0 : putE ⟨ch, cl, nx, l⟩ o = (1 : Int) := by
                unfold putE
                rw [if_neg (fun hm => by
                 obtain ⟨q1, q2, q3, q4, q5, q6, q7, q8⟩ := of_decide_eq_true (show decide _ = true from hm)
                 first | exact not_dec h37 q1 | exact not_dec h75 q8 | omega)]
               have hn : ¬ (1 : Int) = 0 := by first | decide | assumption
               have e1 : putB ⟨ch, cl, nx, l⟩ o = ⟨ch, cl, nx, l⟩ := if_neg (by rw [e0]; exact hn)
               rw [e1, e0]
               exact ⟨(ad, c), rfl, (hw.part (F := [Bk.rr l ad c, .cells b [.string ch, .string cl, .int .u64 nx, .slice ad l.length c]]) (.cons (by first | exact del0 | exact del1 | exact del2 | exact del3 | exact del4 | exact del5) (.cons (by first | exact del0 | exact del1 | exact del2 | exact del3 | exact del4 | exact del5) .nil)))⟩
              )
            ·first | (exfalso; omega) | (
              refine juy (y_pick_false rfl rfl) ?_; (iterate 7 refine juz ?_); refine ju_call rfl (by decide) rfl (goes_func rfl) (fun w1 hw1 => pcall hw1 (rcommit_any _ _ w1 hsz hf5)) ?_; refine juy (y_sneq rfl rfl) ?_; refine ju_bool (fun h75 => ?_) (fun h75 => ?_)
              ·skip
               refine juy (y_pick_false rfl rfl) ?_; refine ju_nil ?_; refine jq_then ?_; refine jc_true rfl ?_; refine jsr ?_; refine jz ?_; refine jnt ?_; refine jc_ret ?_; refine jq_then_ret ?_; refine jq_ret1 rfl rfl ?_
               exact fun w' hw => by
                have e0 : putE ⟨ch, cl, nx, l⟩ o = (1 : Int) := by
                 unfold putE
                 rw [if_neg (fun hm => by
                  obtain ⟨q1, q2, q3, q4, q5, q6, q7, q8⟩ := of_decide_eq_true (show decide _ = true from hm)
                  first | exact not_dec h37 q1 | exact not_dec h75 q8 | omega)]
                have hn : ¬ (1 : Int) = 0 := by first | decide | assumption
                have e1 : putB ⟨ch, cl, nx, l⟩ o = ⟨ch, cl, nx, l⟩ := if_neg (by rw [e0]; exact hn)
                rw [e1, e0]
                exact ⟨(ad, c), rfl, (hw.part (F := [Bk.rr l ad c, .cells b [.string ch, .string cl, .int .u64 nx, .slice ad l.length c]]) (.cons (by first | exact del0 | exact del1 | exact del2 | exact del3 | exact del4 | exact del5) (.cons (by first | exact del0 | exact del1 | exact del2 | exact del3 | exact del4 | exact del5) .nil)))⟩
              ·skip
               refine juy (y_pick_false rfl rfl) ?_; refine ju_nil ?_; refine jq_then ?_; refine jc_false rfl ?_; refine jc_skip ?_; refine jq_then ?_; refine jc_seq ?_; refine jsr ?_; (iterate 3 refine jz ?_); refine jpc (goes_func rfl) (fun w1 hw1 => rfind16_any b ad l c w1 hl (CellAt.of_cells (hw1.get (A := .cells b [.string ch, .string cl, .int .u64 nx, .slice ad l.length c]) (by first | exact mem0 | exact mem1 | exact mem2 | exact mem3 | exact mem4 | exact mem5 | exact mem6)) rfl) (ElAt.of_row (c := Of.c) (fun _ => rfl) rfl (hw1.get (A := Bk.rr l ad c) (by first | exact mem0 | exact mem1 | exact mem2 | exact mem3 | exact mem4 | exact mem5 | exact mem6))) o.serial) ?_; refine jy (y_geq rfl rfl) ?_; refine jl_prop (fun h81 => ?_) (fun h81 => ?_)
               ·first | (exfalso; omega) | (
                 refine jnt ?_; refine jc_true rfl ?_; refine jsr ?_; refine jz ?_; refine jnt ?_; refine jc_ret ?_; refine jq_then_ret ?_; refine jq_ret1 rfl rfl ?_
                 exact fun w' hw => by
                  have e0 : putE ⟨ch, cl, nx, l⟩ o = (7 : Int) := by
                   unfold putE
                   have hm : mayO ⟨ch, cl, nx, l⟩ o = true := decide_eq_true ⟨of_ndec h37, by omega, by omega, by omega, by omega, by omega, by omega, of_ndec h75⟩
                   rw [if_pos hm]
                   show (if 0 ≤ findL l o.serial then (7 : Int) else roomE l (if o.taken = true then 0 else o.face)) = _
                   rw [if_pos (by omega)]
                  have hn : ¬ (7 : Int) = 0 := by first | decide | assumption
                  have e1 : putB ⟨ch, cl, nx, l⟩ o = ⟨ch, cl, nx, l⟩ := if_neg (by rw [e0]; exact hn)
                  rw [e1, e0]
                  exact ⟨(ad, c), rfl, (hw.part (F := [Bk.rr l ad c, .cells b [.string ch, .string cl, .int .u64 nx, .slice ad l.length c]]) (.cons (by first | exact del0 | exact del1 | exact del2 | exact del3 | exact del4 | exact del5) (.cons (by first | exact del0 | exact del1 | exact del2 | exact del3 | exact del4 | exact del5) .nil)))⟩
                 )
               ·first | (exfalso; omega) | (
                 refine jnt ?_; refine jc_false rfl ?_; refine jc_skip ?_; refine jq_then ?_; refine jc_seq ?_; refine jsr ?_; (iterate 4 refine jz ?_); refine jy (y_len_slice rfl) ?_; refine jy (y_geq rfl rfl) ?_; refine jl_prop (fun h87 => ?_) (fun h87 => ?_)
                 ·first | (exfalso; omega) | (
                   refine jnt ?_; refine jc_true rfl ?_; refine jsr ?_; refine jz ?_; refine jnt ?_; refine jc_ret ?_; refine jq_then_ret ?_; refine jq_ret1 rfl rfl ?_
                   exact fun w' hw => by
                    have e0 : putE ⟨ch, cl, nx, l⟩ o = (9 : Int) := by
                     unfold putE
                     have hm : mayO ⟨ch, cl, nx, l⟩ o = true := decide_eq_true ⟨of_ndec h37, by omega, by omega, by omega, by omega, by omega, by omega, of_ndec h75⟩
                     rw [if_pos hm]
                     show (if 0 ≤ findL l o.serial then (7 : Int) else roomE l (if o.taken = true then 0 else o.face)) = _
                     rw [if_neg (by omega)]
                     unfold roomE
                     rw [if_pos (by omega)]
                    have hn : ¬ (9 : Int) = 0 := by first | decide | assumption
                    have e1 : putB ⟨ch, cl, nx, l⟩ o = ⟨ch, cl, nx, l⟩ := if_neg (by rw [e0]; exact hn)
                    rw [e1, e0]
                    exact ⟨(ad, c), rfl, (hw.part (F := [Bk.rr l ad c, .cells b [.string ch, .string cl, .int .u64 nx, .slice ad l.length c]]) (.cons (by first | exact del0 | exact del1 | exact del2 | exact del3 | exact del4 | exact del5) (.cons (by first | exact del0 | exact del1 | exact del2 | exact del3 | exact del4 | exact del5) .nil)))⟩
                   )
                 ·first | (exfalso; omega) | (
                   refine jnt ?_; refine jc_false rfl ?_; refine jc_skip ?_; refine jq_then ?_; refine jc_seq ?_; refine jc_draw (by kernel_rfl) (fun _ h => h.drew) ?_; refine juz ?_; refine ju_call rfl (by decide) rfl (goes_func rfl) (fun w1 hw1 => pcall hw1 (ropen16_any b ad l c w1 hl (CellAt.of_cells (hw1.get (A := .cells b [.string ch, .string cl, .int .u64 nx, .slice ad l.length c]) (by first | exact mem0 | exact mem1 | exact mem2 | exact mem3 | exact mem4 | exact mem5 | exact mem6)) rfl) (ElAt.of_row (c := Of.c) (fun _ => rfl) rfl (hw1.get (A := Bk.rr l ad c) (by first | exact mem0 | exact mem1 | exact mem2 | exact mem3 | exact mem4 | exact mem5 | exact mem6))))) ?_; (iterate 2 refine juz ?_); refine ju_call rfl (by decide) rfl (goes_func rfl) (fun w1 hw1 => pcall hw1 (radd_any (openL l) o.face w1 (openL_range l hlf) hf1)) ?_; (iterate 5 refine juz ?_); refine ju_nil ?_; refine jq_then ?_; refine jc_seq ?_; refine jsr ?_; (iterate 2 refine jz ?_); refine jl_bool (fun h97 => ?_) (fun h97 => ?_)
                   ·skip
                    (iterate 2 refine jz ?_); (iterate 2 refine jsk ?_); refine jy (y_pick_false rfl rfl) ?_; refine jnt ?_; refine jc_false rfl ?_; refine jc_skip ?_; refine jq_then ?_; refine jc_seq ?_; refine jc_schedC (Hp w (feetL [Bk.rr l ad c, .cells b [.string ch, .string cl, .int .u64 nx, .slice ad l.length c]]) [.cells b3 (Of.c o), .cells b [.string ch, .string cl, .int .u64 nx, .slice ad l.length c]]) 10 [(0, true), (1, true), (2, true), (3, true), (4, true), (5, true), (6, false), (7, false), (8, true), (9, true)] rfl (by kernel_rfl) (fun _ _ _ _ h => h) (fun _ h => (h.part (.cons (by first | exact del0 | exact del1 | exact del2 | exact del3 | exact del4 | exact del5) (.cons (by first | exact del0 | exact del1 | exact del2 | exact del3 | exact del4 | exact del5) .nil))).drew) (fun _ h => h.drew) ?_
                    simp only [pickO, nthO, List.drop_succ_cons, List.drop_zero]
                    (iterate 6 refine jkz ?_); refine js_m (by intros; rename_i h; exact h.part (.cons (by first | exact del0 | exact del1 | exact del2 | exact del3 | exact del4 | exact del5) (.cons (by first | exact del0 | exact del1 | exact del2 | exact del3 | exact del4 | exact del5) .nil))) rfl (by decide) rfl (m_buildSlice (size := 9) (by decide) (Built.agg rfl rfl rfl (by repeat constructor) Built.nil)) (fun b110 => ?_); refine js_m2z rfl (by decide) rfl (m_append rfl rfl (by first | exact del0 | exact del1 | exact del2 | exact del3 | exact del4) (by first | exact del0 | exact del1 | exact del2 | exact del3 | exact del4) rfl (by omega) (by omega)) (by intros; rename_i h; exact h.part (.cons (by first | exact del0 | exact del1 | exact del2 | exact del3 | exact del4 | exact del5) (.cons (by first | exact del0 | exact del1 | exact del2 | exact del3 | exact del4 | exact del5) .nil))) (fun a111 c111 => ?_); (iterate 2 refine jkz ?_); refine js_nil ?_; refine jst ?_; refine jnt ?_; refine jc_seq ?_; refine jc_tail 11 (by kernel_rfl) (fun _ h => h.drew) ?_
                    simp only [List.take_succ_cons, List.take_zero, List.drop_succ_cons, List.drop_zero]
                    (iterate 7 refine jtz ?_); refine jty (y_add_u64 rfl rfl) ?_; refine jt_as (u := .int .u64 (o.serial + 1)) (congrArg (Value.int .u64) (by omega)) ?_; refine jty (y_max rfl rfl) ?_; (iterate 2 refine jtz ?_); refine jt_nil ?_; refine jst ?_; refine jnt ?_; refine jsr ?_; refine jz ?_; refine jnt ?_; refine jc_ret ?_; refine jq_ret1 rfl rfl ?_
                    exact fun w' hw => by
                     have e0 : putE ⟨ch, cl, nx, l⟩ o = 0 := by
                      unfold putE
                      have hm : mayO ⟨ch, cl, nx, l⟩ o = true := decide_eq_true ⟨of_ndec h37, by omega, by omega, by omega, by omega, by omega, by omega, of_ndec h75⟩
                      rw [if_pos hm]
                      show (if 0 ≤ findL l o.serial then (7 : Int) else roomE l (if o.taken = true then 0 else o.face)) = _
                      rw [if_neg (by omega)]
                      first
                      | (rw [if_pos (show o.taken = true by assumption), room_zero (openL_range l hlf), if_neg (by omega)])
                      | (rw [if_neg (show ¬ o.taken = true by rw [show o.taken = false by assumption]; decide)]; unfold roomE; rw [if_neg (by omega)]; exact Decidable.not_not.1 (by assumption))
                     have e1 : putB ⟨ch, cl, nx, l⟩ o = ⟨ch, cl, max nx (o.serial + 1), l ++ [o]⟩ := if_pos e0
                     rw [e1, e0]
                     refine ⟨(a111, c111), rfl, (hw.part (F := [.row a111 (l.length + 1) c111 55 9 (l.flatMap Of.c ++ Of.c o), .cells b [.string ch, .string cl, .int .u64 (max nx (o.serial + 1)), .slice a111 (l.length + 1) c111]]) (.cons del0 (.cons del1 .nil))).cast ?_⟩
                     show _ = [Bk.rr (l ++ [o]) a111 c111, .cells b [.string ch, .string cl, .int .u64 (max nx (o.serial + 1)), .slice a111 (l ++ [o]).length c111]]
                     unfold Bk.rr
                     rw [List.length_append, List.flatMap_append] <;> rfl
                   ·skip
                    (iterate 3 refine jz ?_); refine jy (y_neq rfl rfl) ?_; refine jl_prop (fun h101 => ?_) (fun h101 => ?_)
                    ·first | (exfalso; omega) | (
                      refine jy (y_pick_true rfl rfl) ?_; refine jnt ?_; refine jc_true rfl ?_; refine jsr ?_; (iterate 2 refine jz ?_); refine jnt ?_; refine jc_ret ?_; refine jq_then_ret ?_; refine jq_ret1 rfl rfl ?_
                      exact fun w' hw => by
                       have e0 : putE ⟨ch, cl, nx, l⟩ o = addE (openL l) o.face := by
                        unfold putE
                        have hm : mayO ⟨ch, cl, nx, l⟩ o = true := decide_eq_true ⟨of_ndec h37, by omega, by omega, by omega, by omega, by omega, by omega, of_ndec h75⟩
                        rw [if_pos hm]
                        show (if 0 ≤ findL l o.serial then (7 : Int) else roomE l (if o.taken = true then 0 else o.face)) = _
                        rw [if_neg (by omega), if_neg (show ¬ o.taken = true by rw [show o.taken = false by assumption]; decide)]
                        unfold roomE
                        rw [if_neg (by omega)]
                       have hn : ¬ addE (openL l) o.face = 0 := by first | decide | assumption
                       have e1 : putB ⟨ch, cl, nx, l⟩ o = ⟨ch, cl, nx, l⟩ := if_neg (by rw [e0]; exact hn)
                       rw [e1, e0]
                       exact ⟨(ad, c), rfl, (hw.part (F := [Bk.rr l ad c, .cells b [.string ch, .string cl, .int .u64 nx, .slice ad l.length c]]) (.cons (by first | exact del0 | exact del1 | exact del2 | exact del3 | exact del4 | exact del5) (.cons (by first | exact del0 | exact del1 | exact del2 | exact del3 | exact del4 | exact del5) .nil)))⟩
                      )
                    ·first | (exfalso; omega) | (
                      refine jy (y_pick_true rfl rfl) ?_; refine jnt ?_; refine jc_false rfl ?_; refine jc_skip ?_; refine jq_then ?_; refine jc_seq ?_; refine jc_schedC (Hp w (feetL [Bk.rr l ad c, .cells b [.string ch, .string cl, .int .u64 nx, .slice ad l.length c]]) [.cells b3 (Of.c o), .cells b [.string ch, .string cl, .int .u64 nx, .slice ad l.length c]]) 10 [(0, true), (1, true), (2, true), (3, true), (4, true), (5, true), (6, false), (7, false), (8, true), (9, true)] rfl (by kernel_rfl) (fun _ _ _ _ h => h) (fun _ h => (h.part (.cons (by first | exact del0 | exact del1 | exact del2 | exact del3 | exact del4 | exact del5) (.cons (by first | exact del0 | exact del1 | exact del2 | exact del3 | exact del4 | exact del5) .nil))).drew) (fun _ h => h.drew) ?_
                      simp only [pickO, nthO, List.drop_succ_cons, List.drop_zero]
                      (iterate 6 refine jkz ?_); refine js_m (by intros; rename_i h; exact h.part (.cons (by first | exact del0 | exact del1 | exact del2 | exact del3 | exact del4 | exact del5) (.cons (by first | exact del0 | exact del1 | exact del2 | exact del3 | exact del4 | exact del5) .nil))) rfl (by decide) rfl (m_buildSlice (size := 9) (by decide) (Built.agg rfl rfl rfl (by repeat constructor) Built.nil)) (fun b110 => ?_); refine js_m2z rfl (by decide) rfl (m_append rfl rfl (by first | exact del0 | exact del1 | exact del2 | exact del3 | exact del4) (by first | exact del0 | exact del1 | exact del2 | exact del3 | exact del4) rfl (by omega) (by omega)) (by intros; rename_i h; exact h.part (.cons (by first | exact del0 | exact del1 | exact del2 | exact del3 | exact del4 | exact del5) (.cons (by first | exact del0 | exact del1 | exact del2 | exact del3 | exact del4 | exact del5) .nil))) (fun a111 c111 => ?_); (iterate 2 refine jkz ?_); refine js_nil ?_; refine jst ?_; refine jnt ?_; refine jc_seq ?_; refine jc_tail 11 (by kernel_rfl) (fun _ h => h.drew) ?_
                      simp only [List.take_succ_cons, List.take_zero, List.drop_succ_cons, List.drop_zero]
                      (iterate 7 refine jtz ?_); refine jty (y_add_u64 rfl rfl) ?_; refine jt_as (u := .int .u64 (o.serial + 1)) (congrArg (Value.int .u64) (by omega)) ?_; refine jty (y_max rfl rfl) ?_; (iterate 2 refine jtz ?_); refine jt_nil ?_; refine jst ?_; refine jnt ?_; refine jsr ?_; refine jz ?_; refine jnt ?_; refine jc_ret ?_; refine jq_ret1 rfl rfl ?_
                      exact fun w' hw => by
                       have e0 : putE ⟨ch, cl, nx, l⟩ o = 0 := by
                        unfold putE
                        have hm : mayO ⟨ch, cl, nx, l⟩ o = true := decide_eq_true ⟨of_ndec h37, by omega, by omega, by omega, by omega, by omega, by omega, of_ndec h75⟩
                        rw [if_pos hm]
                        show (if 0 ≤ findL l o.serial then (7 : Int) else roomE l (if o.taken = true then 0 else o.face)) = _
                        rw [if_neg (by omega)]
                        first
                        | (rw [if_pos (show o.taken = true by assumption), room_zero (openL_range l hlf), if_neg (by omega)])
                        | (rw [if_neg (show ¬ o.taken = true by rw [show o.taken = false by assumption]; decide)]; unfold roomE; rw [if_neg (by omega)]; exact Decidable.not_not.1 (by assumption))
                       have e1 : putB ⟨ch, cl, nx, l⟩ o = ⟨ch, cl, max nx (o.serial + 1), l ++ [o]⟩ := if_pos e0
                       rw [e1, e0]
                       refine ⟨(a111, c111), rfl, (hw.part (F := [.row a111 (l.length + 1) c111 55 9 (l.flatMap Of.c ++ Of.c o), .cells b [.string ch, .string cl, .int .u64 (max nx (o.serial + 1)), .slice a111 (l.length + 1) c111]]) (.cons del0 (.cons del1 .nil))).cast ?_⟩
                       show _ = [Bk.rr (l ++ [o]) a111 c111, .cells b [.string ch, .string cl, .int .u64 (max nx (o.serial + 1)), .slice a111 (l ++ [o]).length c111]]
                       unfold Bk.rr
                       rw [List.length_append, List.flatMap_append] <;> rfl
                      )
                   )
                 )
              )
            )
          )
        )
      )
    )

theorem rtake16_any (b : Nat) (ch cl : ByteArray) (nx : Int) (ad : Option Addr) (l : List Of) (c : Nat) (w : World) (hl : l.length ≤ 1000) (h0 : Hp w (feetL [Bk.rr l ad c, .cells b [.string ch, .string cl, .int .u64 nx, .slice ad l.length c]]) [Bk.rr l ad c, .cells b [.string ch, .string cl, .int .u64 nx, .slice ad l.length c]] w) (t : Tk) (hf : t.Fit) (hz1 : t.chan.size ≤ 40000) (hz2 : t.commit.size ≤ 40000) (hz3 : t.sig.size ≤ 1000000) (hof : ∀ o ∈ l, o.Fit) :
  Calls Tryz.prog 33 #[.pointer (some ⟨b, 0, none⟩), .agg (Tk.c t).toArray] w fun e w' => ∃ pr : Option Addr × Nat, e = .returned (.tuple #[.int .u64 (takeV ⟨ch, cl, nx, l⟩ t), .agg (Wn.c (takeW ⟨ch, cl, nx, l⟩ t)).toArray, .bool (takeI ⟨ch, cl, nx, l⟩ t), .int .i64 (takeE ⟨ch, cl, nx, l⟩ t)]) ∧ Hp w (feetL [Bk.rr l ad c, .cells b [.string ch, .string cl, .int .u64 nx, .slice ad l.length c]]) [Bk.rr (takeB ⟨ch, cl, nx, l⟩ t).l pr.1 pr.2, Bk.h (takeB ⟨ch, cl, nx, l⟩ t) b pr.1 pr.2] w' := by
 have hr := find_range l t.serial
 refine calls_of (n := 118) (E := [(0, .pointer (some ⟨b, 0, none⟩)), (1, .agg (Tk.c t).toArray)]) (W := Hp w (feetL [Bk.rr l ad c, .cells b [.string ch, .string cl, .int .u64 nx, .slice ad l.length c]]) [Bk.rr l ad c, .cells b [.string ch, .string cl, .int .u64 nx, .slice ad l.length c]]) Tryz.func33 rfl rfl (Nat.le_of_ble_eq_true rfl) rfl h0 ?_; refine jsr ?_; refine jl_m rfl (by decide) rfl (m_box rfl rfl) (fun b3 => ?_); refine jz ?_; refine jl_m rfl (by decide) rfl (m_alloc) (fun b5 => ?_); (iterate 2 refine jz ?_); refine jnt ?_; refine jsr ?_; (iterate 3 refine jz ?_); refine jpc (goes_func rfl) (fun w1 hw1 => rfind16_any b ad l c w1 hl (CellAt.of_cells (hw1.get (A := .cells b [.string ch, .string cl, .int .u64 nx, .slice ad l.length c]) (by first | exact mem0 | exact mem1 | exact mem2 | exact mem3 | exact mem4 | exact mem5 | exact mem6)) rfl) (ElAt.of_row (c := Of.c) (fun _ => rfl) rfl (hw1.get (A := Bk.rr l ad c) (by first | exact mem0 | exact mem1 | exact mem2 | exact mem3 | exact mem4 | exact mem5 | exact mem6))) t.serial) ?_; refine jz ?_; refine jnt ?_; refine jc_seq ?_; refine jsr ?_; refine jz ?_; refine jy (y_lss rfl rfl) ?_; refine jl_prop (fun h20 => ?_) (fun h20 => ?_)
 ·first | (exfalso; omega) | (
   refine jnt ?_; refine jc_true rfl ?_; refine jsr ?_; refine jy (y_build Built.nil) ?_; refine jz ?_; refine jst ?_; (iterate 2 refine jz ?_); refine jnt ?_; refine jc_ret ?_; refine jq_then_ret ?_; refine jq_res (.inl rfl) rfl (.tmp rfl (rca (.tmp rfl (.tmp rfl .nil)))) ?_
   exact fun w' hw => by
    have e0 : takeE ⟨ch, cl, nx, l⟩ t = 6 := by
     exact if_pos (show findL l t.serial < 0 by omega)
    have hn : ¬ takeE ⟨ch, cl, nx, l⟩ t = 0 := by rw [e0]; decide
    have e1 : takeB ⟨ch, cl, nx, l⟩ t = ⟨ch, cl, nx, l⟩ := if_neg hn
    have e2 : takeV ⟨ch, cl, nx, l⟩ t = 0 := if_neg hn
    have e3 : takeW ⟨ch, cl, nx, l⟩ t = wn0 := if_neg hn
    have e4 : takeI ⟨ch, cl, nx, l⟩ t = false := if_neg hn
    rw [e1, e2, e3, e4, e0]
    exact ⟨(ad, c), rfl, (hw.part (F := [Bk.rr l ad c, .cells b [.string ch, .string cl, .int .u64 nx, .slice ad l.length c]]) (.cons (by first | exact del0 | exact del1 | exact del2 | exact del3 | exact del4 | exact del5) (.cons (by first | exact del0 | exact del1 | exact del2 | exact del3 | exact del4 | exact del5) .nil)))⟩
   )
 ·first | (exfalso; omega) | (
   refine jnt ?_; refine jc_false rfl ?_; refine jc_skip ?_; refine jq_then ?_; refine jc_seq ?_
   obtain ⟨i, hi⟩ : ∃ i : Nat, findL l t.serial = (i : Int) := ⟨(findL l t.serial).toNat, by omega⟩
   have hlt : i < l.length := by omega
   refine jc_pure (fun _ hw => row_some (ad := ad) (hw.get (A := Bk.rr l ad c) (by first | exact mem0 | exact mem1 | exact mem2 | exact mem3 | exact mem4 | exact mem5 | exact mem6)) (by omega)) (fun hps => ?_)
   obtain ⟨bb, hbb⟩ := hps
   have hfo := hof _ (List.getElem_mem hlt)
   have hget := flat_cell hlt rfl
   have hser := find_ser hi hlt rfl
   generalize hxe : l[i]'hlt = o at hget hfo hser
   refine jc_region ?_; (iterate 4 refine jz ?_); refine jl_as (u := .slice (some ⟨bb, 0, none⟩) l.length c) (by rw [hbb]) ?_; refine jz ?_; refine jy (y_indexAddr_slice (off := i * 9) rfl rfl (by omega) (by omega) (by omega)) ?_; refine jy (y_loadAgg_row (b := bb) (m := l.length) (cap := c) (e := 55) (size' := 9) (xs := l.flatMap Of.c) (us := Of.c o) rfl (by rw [← hbb]; first | exact mem0 | exact mem1 | exact mem2 | exact mem3 | exact mem4 | exact mem5 | exact mem6) rfl hget) ?_; refine jl_m rfl (by decide) rfl (m_alloc) (fun b9 => ?_); refine jst ?_; refine jnt ?_; refine jc_seq ?_; refine jsr ?_; (iterate 4 refine jz ?_); refine jy (y_sneq rfl rfl) ?_; refine jl_bool (fun h33 => ?_) (fun h33 => ?_)
   ·skip
    refine jz ?_; (iterate 5 refine jsk ?_); refine jy (y_pick_true rfl rfl) ?_; refine jz ?_; (iterate 5 refine jsk ?_); refine jy (y_pick_true rfl rfl) ?_; refine jz ?_; (iterate 5 refine jsk ?_); refine jy (y_pick_true rfl rfl) ?_; refine jz ?_; (iterate 5 refine jsk ?_); refine jy (y_pick_true rfl rfl) ?_; refine jnt ?_; refine jc_true rfl ?_; refine jsr ?_; refine jy (y_build Built.nil) ?_; refine jz ?_; refine jst ?_; (iterate 2 refine jz ?_); refine jnt ?_; refine jc_ret ?_; refine jq_then_ret ?_; refine jq_res (.inl rfl) rfl (.tmp rfl (rca (.tmp rfl (.tmp rfl .nil)))) ?_
    exact fun w' hw => by
     have e0 : takeE ⟨ch, cl, nx, l⟩ t = 13 := by
      rw [(take_pos hi hlt hxe).2, if_pos (tk_ne (by first | exact .inl (not_dec h33) | exact .inr (.inl (by omega)) | exact .inr (.inr (.inl (by omega))) | exact .inr (.inr (.inr (.inl (by omega)))) | exact .inr (.inr (.inr (.inr (not_dec h60))))))]
     have hn : ¬ takeE ⟨ch, cl, nx, l⟩ t = 0 := by rw [e0]; decide
     have e1 : takeB ⟨ch, cl, nx, l⟩ t = ⟨ch, cl, nx, l⟩ := if_neg hn
     have e2 : takeV ⟨ch, cl, nx, l⟩ t = 0 := if_neg hn
     have e3 : takeW ⟨ch, cl, nx, l⟩ t = wn0 := if_neg hn
     have e4 : takeI ⟨ch, cl, nx, l⟩ t = false := if_neg hn
     rw [e1, e2, e3, e4, e0]
     exact ⟨(ad, c), rfl, (hw.part (F := [Bk.rr l ad c, .cells b [.string ch, .string cl, .int .u64 nx, .slice ad l.length c]]) (.cons (by first | exact del0 | exact del1 | exact del2 | exact del3 | exact del4 | exact del5) (.cons (by first | exact del0 | exact del1 | exact del2 | exact del3 | exact del4 | exact del5) .nil)))⟩
   ·skip
    (iterate 5 refine jz ?_); refine jy (y_neq rfl rfl) ?_; refine jl_prop (fun h39 => ?_) (fun h39 => ?_)
    ·first | (exfalso; omega) | (
      refine jy (y_pick_false rfl rfl) ?_; refine jz ?_; (iterate 5 refine jsk ?_); refine jy (y_pick_true rfl rfl) ?_; refine jz ?_; (iterate 5 refine jsk ?_); refine jy (y_pick_true rfl rfl) ?_; refine jz ?_; (iterate 5 refine jsk ?_); refine jy (y_pick_true rfl rfl) ?_; refine jnt ?_; refine jc_true rfl ?_; refine jsr ?_; refine jy (y_build Built.nil) ?_; refine jz ?_; refine jst ?_; (iterate 2 refine jz ?_); refine jnt ?_; refine jc_ret ?_; refine jq_then_ret ?_; refine jq_res (.inl rfl) rfl (.tmp rfl (rca (.tmp rfl (.tmp rfl .nil)))) ?_
      exact fun w' hw => by
       have e0 : takeE ⟨ch, cl, nx, l⟩ t = 13 := by
        rw [(take_pos hi hlt hxe).2, if_pos (tk_ne (by first | exact .inl (not_dec h33) | exact .inr (.inl (by omega)) | exact .inr (.inr (.inl (by omega))) | exact .inr (.inr (.inr (.inl (by omega)))) | exact .inr (.inr (.inr (.inr (not_dec h60))))))]
       have hn : ¬ takeE ⟨ch, cl, nx, l⟩ t = 0 := by rw [e0]; decide
       have e1 : takeB ⟨ch, cl, nx, l⟩ t = ⟨ch, cl, nx, l⟩ := if_neg hn
       have e2 : takeV ⟨ch, cl, nx, l⟩ t = 0 := if_neg hn
       have e3 : takeW ⟨ch, cl, nx, l⟩ t = wn0 := if_neg hn
       have e4 : takeI ⟨ch, cl, nx, l⟩ t = false := if_neg hn
       rw [e1, e2, e3, e4, e0]
       exact ⟨(ad, c), rfl, (hw.part (F := [Bk.rr l ad c, .cells b [.string ch, .string cl, .int .u64 nx, .slice ad l.length c]]) (.cons (by first | exact del0 | exact del1 | exact del2 | exact del3 | exact del4 | exact del5) (.cons (by first | exact del0 | exact del1 | exact del2 | exact del3 | exact del4 | exact del5) .nil)))⟩
      )
    ·first | (exfalso; omega) | (
      refine jy (y_pick_false rfl rfl) ?_; (iterate 5 refine jz ?_); refine jy (y_neq rfl rfl) ?_; refine jl_prop (fun h46 => ?_) (fun h46 => ?_)
      ·first | (exfalso; omega) | (
        refine jy (y_pick_false rfl rfl) ?_; refine jz ?_; (iterate 5 refine jsk ?_); refine jy (y_pick_true rfl rfl) ?_; refine jz ?_; (iterate 5 refine jsk ?_); refine jy (y_pick_true rfl rfl) ?_; refine jnt ?_; refine jc_true rfl ?_; refine jsr ?_; refine jy (y_build Built.nil) ?_; refine jz ?_; refine jst ?_; (iterate 2 refine jz ?_); refine jnt ?_; refine jc_ret ?_; refine jq_then_ret ?_; refine jq_res (.inl rfl) rfl (.tmp rfl (rca (.tmp rfl (.tmp rfl .nil)))) ?_
        exact fun w' hw => by
         have e0 : takeE ⟨ch, cl, nx, l⟩ t = 13 := by
          rw [(take_pos hi hlt hxe).2, if_pos (tk_ne (by first | exact .inl (not_dec h33) | exact .inr (.inl (by omega)) | exact .inr (.inr (.inl (by omega))) | exact .inr (.inr (.inr (.inl (by omega)))) | exact .inr (.inr (.inr (.inr (not_dec h60))))))]
         have hn : ¬ takeE ⟨ch, cl, nx, l⟩ t = 0 := by rw [e0]; decide
         have e1 : takeB ⟨ch, cl, nx, l⟩ t = ⟨ch, cl, nx, l⟩ := if_neg hn
         have e2 : takeV ⟨ch, cl, nx, l⟩ t = 0 := if_neg hn
         have e3 : takeW ⟨ch, cl, nx, l⟩ t = wn0 := if_neg hn
         have e4 : takeI ⟨ch, cl, nx, l⟩ t = false := if_neg hn
         rw [e1, e2, e3, e4, e0]
         exact ⟨(ad, c), rfl, (hw.part (F := [Bk.rr l ad c, .cells b [.string ch, .string cl, .int .u64 nx, .slice ad l.length c]]) (.cons (by first | exact del0 | exact del1 | exact del2 | exact del3 | exact del4 | exact del5) (.cons (by first | exact del0 | exact del1 | exact del2 | exact del3 | exact del4 | exact del5) .nil)))⟩
        )
      ·first | (exfalso; omega) | (
        refine jy (y_pick_false rfl rfl) ?_; (iterate 5 refine jz ?_); refine jy (y_neq rfl rfl) ?_; refine jl_prop (fun h53 => ?_) (fun h53 => ?_)
        ·first | (exfalso; omega) | (
          refine jy (y_pick_false rfl rfl) ?_; refine jz ?_; (iterate 5 refine jsk ?_); refine jy (y_pick_true rfl rfl) ?_; refine jnt ?_; refine jc_true rfl ?_; refine jsr ?_; refine jy (y_build Built.nil) ?_; refine jz ?_; refine jst ?_; (iterate 2 refine jz ?_); refine jnt ?_; refine jc_ret ?_; refine jq_then_ret ?_; refine jq_res (.inl rfl) rfl (.tmp rfl (rca (.tmp rfl (.tmp rfl .nil)))) ?_
          exact fun w' hw => by
           have e0 : takeE ⟨ch, cl, nx, l⟩ t = 13 := by
            rw [(take_pos hi hlt hxe).2, if_pos (tk_ne (by first | exact .inl (not_dec h33) | exact .inr (.inl (by omega)) | exact .inr (.inr (.inl (by omega))) | exact .inr (.inr (.inr (.inl (by omega)))) | exact .inr (.inr (.inr (.inr (not_dec h60))))))]
           have hn : ¬ takeE ⟨ch, cl, nx, l⟩ t = 0 := by rw [e0]; decide
           have e1 : takeB ⟨ch, cl, nx, l⟩ t = ⟨ch, cl, nx, l⟩ := if_neg hn
           have e2 : takeV ⟨ch, cl, nx, l⟩ t = 0 := if_neg hn
           have e3 : takeW ⟨ch, cl, nx, l⟩ t = wn0 := if_neg hn
           have e4 : takeI ⟨ch, cl, nx, l⟩ t = false := if_neg hn
           rw [e1, e2, e3, e4, e0]
           exact ⟨(ad, c), rfl, (hw.part (F := [Bk.rr l ad c, .cells b [.string ch, .string cl, .int .u64 nx, .slice ad l.length c]]) (.cons (by first | exact del0 | exact del1 | exact del2 | exact del3 | exact del4 | exact del5) (.cons (by first | exact del0 | exact del1 | exact del2 | exact del3 | exact del4 | exact del5) .nil)))⟩
          )
        ·first | (exfalso; omega) | (
          refine jy (y_pick_false rfl rfl) ?_; (iterate 5 refine jz ?_); refine jy (y_sneq rfl rfl) ?_; refine jl_bool (fun h60 => ?_) (fun h60 => ?_)
          ·skip
           refine jy (y_pick_false rfl rfl) ?_; refine jnt ?_; refine jc_true rfl ?_; refine jsr ?_; refine jy (y_build Built.nil) ?_; refine jz ?_; refine jst ?_; (iterate 2 refine jz ?_); refine jnt ?_; refine jc_ret ?_; refine jq_then_ret ?_; refine jq_res (.inl rfl) rfl (.tmp rfl (rca (.tmp rfl (.tmp rfl .nil)))) ?_
           exact fun w' hw => by
            have e0 : takeE ⟨ch, cl, nx, l⟩ t = 13 := by
             rw [(take_pos hi hlt hxe).2, if_pos (tk_ne (by first | exact .inl (not_dec h33) | exact .inr (.inl (by omega)) | exact .inr (.inr (.inl (by omega))) | exact .inr (.inr (.inr (.inl (by omega)))) | exact .inr (.inr (.inr (.inr (not_dec h60))))))]
            have hn : ¬ takeE ⟨ch, cl, nx, l⟩ t = 0 := by rw [e0]; decide
            have e1 : takeB ⟨ch, cl, nx, l⟩ t = ⟨ch, cl, nx, l⟩ := if_neg hn
            have e2 : takeV ⟨ch, cl, nx, l⟩ t = 0 := if_neg hn
            have e3 : takeW ⟨ch, cl, nx, l⟩ t = wn0 := if_neg hn
            have e4 : takeI ⟨ch, cl, nx, l⟩ t = false := if_neg hn
            rw [e1, e2, e3, e4, e0]
            exact ⟨(ad, c), rfl, (hw.part (F := [Bk.rr l ad c, .cells b [.string ch, .string cl, .int .u64 nx, .slice ad l.length c]]) (.cons (by first | exact del0 | exact del1 | exact del2 | exact del3 | exact del4 | exact del5) (.cons (by first | exact del0 | exact del1 | exact del2 | exact del3 | exact del4 | exact del5) .nil)))⟩
          ·skip
           refine jy (y_pick_false rfl rfl) ?_; refine jnt ?_; refine jc_false rfl ?_; refine jc_skip ?_; refine jq_then ?_; refine jc_seq ?_; refine jsr ?_; (iterate 2 refine jz ?_); refine jl_bool (fun h64 => ?_) (fun h64 => ?_)
           ·skip
            refine jnt ?_; refine jc_true rfl ?_; refine jsr ?_; refine jy (y_build Built.nil) ?_; refine jz ?_; refine jst ?_; (iterate 2 refine jz ?_); refine jnt ?_; refine jc_ret ?_; refine jq_then_ret ?_; refine jq_res (.inl rfl) rfl (.tmp rfl (rca (.tmp rfl (.tmp rfl .nil)))) ?_
            exact fun w' hw => by
             have e0 : takeE ⟨ch, cl, nx, l⟩ t = 7 := by
              rw [(take_pos hi hlt hxe).2, if_neg (fun h => h (tk_eq hser (of_ndec h33) (by omega) (by omega) (by omega) (of_ndec h60))), if_pos (show o.taken = true by assumption)]
             have hn : ¬ takeE ⟨ch, cl, nx, l⟩ t = 0 := by rw [e0]; decide
             have e1 : takeB ⟨ch, cl, nx, l⟩ t = ⟨ch, cl, nx, l⟩ := if_neg hn
             have e2 : takeV ⟨ch, cl, nx, l⟩ t = 0 := if_neg hn
             have e3 : takeW ⟨ch, cl, nx, l⟩ t = wn0 := if_neg hn
             have e4 : takeI ⟨ch, cl, nx, l⟩ t = false := if_neg hn
             rw [e1, e2, e3, e4, e0]
             exact ⟨(ad, c), rfl, (hw.part (F := [Bk.rr l ad c, .cells b [.string ch, .string cl, .int .u64 nx, .slice ad l.length c]]) (.cons (by first | exact del0 | exact del1 | exact del2 | exact del3 | exact del4 | exact del5) (.cons (by first | exact del0 | exact del1 | exact del2 | exact del3 | exact del4 | exact del5) .nil)))⟩
           ·skip
            refine jnt ?_; refine jc_false rfl ?_; refine jc_skip ?_; refine jq_then ?_; (iterate 2 refine jc_seq ?_); refine jc_draw (by kernel_rfl) (fun _ h => h.drew) ?_; (iterate 5 refine juz ?_); refine ju_call rfl (by decide) rfl (goes_func rfl) (fun w1 hw1 => pcall hw1 (rsigned_any cl t w1 hf hz1 hz2 hz3)) ?_; refine ju_bool (fun h71 => ?_) (fun h71 => ?_)
            ·skip
             refine juz ?_; refine ju_nil ?_; refine jq_then ?_; refine jc_false rfl ?_; refine jc_skip ?_; refine jq_then ?_; refine jsr ?_; refine jl_m rfl (by decide) rfl (m_buildSlice (size := 9) (by decide) Built.nil) (fun b74 => ?_); (iterate 4 refine jz ?_); refine jl_as (u := .slice (some ⟨bb, 0, none⟩) l.length c) (by rw [hbb]) ?_
             refine jl_m2 rfl (by decide) rfl (m_append_of (src := ⟨bb, 0, none⟩) (news := l.flatMap Of.c) rfl rfl del0 (flat_len (n := 9) (c := Of.c) (fun _ => rfl) l) (fun w2 hw2 j u hj => by
               rw [addr_add, Nat.zero_add]
               exact row_cell (show HA.ok w2 (.row (some ⟨bb, 0, none⟩) l.length c 55 9 (l.flatMap Of.c)) by rw [← hbb]; exact hw2.get (A := Bk.rr l ad c) (by first | exact mem0 | exact mem1 | exact mem2 | exact mem3 | exact mem4 | exact mem5 | exact mem6)) hj) (flat_one (c := Of.c) (fun _ => rfl) _) (by omega) (by omega)) (fun a79 c79 => ?_)
             refine jz ?_; refine jnt ?_; refine jc_seq ?_; refine jc_pure (fun _ hw => row_some (ad := a79) (hw.get mem0) (by omega)) (fun hps => ?_)
             obtain ⟨b79, hb79⟩ := hps
             subst hb79
             refine jc_region ?_; (iterate 2 refine jz ?_); refine jy (y_indexAddr_slice (off := i * 9) rfl rfl (by omega) (by omega) (by omega)) ?_; refine jz ?_; refine jl_w rfl rfl (w_store_row rfl rfl rfl (by show _ < ([] ++ l.flatMap Of.c).length; rw [List.nil_append, flat_len (n := 9) (c := Of.c) (fun _ => rfl)]; omega) rep0) ?_; refine jnt ?_; refine jsr ?_; (iterate 4 refine jz ?_); refine jst ?_; refine jnt ?_; refine jsr ?_; (iterate 6 refine jz ?_); refine jpc (goes_func rfl) (fun w1 hw1 => rnominal_any _ _ _ w1 hfo.face hfo.wins hfo.many) ?_; (iterate 5 refine jz ?_); refine jnt ?_; refine jsr ?_; (iterate 8 refine jz ?_); refine jpc (goes_func rfl) (fun w1 hw1 => rwins_any _ _ _ _ w1 hfo.drawn hf.client hfo.wins hfo.many) ?_; (iterate 5 refine jz ?_); refine jnt ?_; refine jc_seq ?_; refine jc_schedC (Hp w (feetL [Bk.rr l ad c, .cells b [.string ch, .string cl, .int .u64 nx, .slice ad l.length c]]) [.cells b9 (Of.c o), .cells b3 (Tk.c t)]) 11 [(0, true), (1, true), (2, true), (3, true), (4, true), (5, true), (6, true), (7, true), (8, true), (9, false), (10, true)] rfl (by kernel_rfl) (fun _ _ _ _ h => h) (fun _ h => (h.part (.cons (by first | exact del0 | exact del1 | exact del2 | exact del3 | exact del4 | exact del5) (.cons (by first | exact del0 | exact del1 | exact del2 | exact del3 | exact del4 | exact del5) .nil))).drew) (fun _ h => h.drew) ?_
             simp only [pickO, nthO, List.drop_succ_cons, List.drop_zero]
             (iterate 6 refine jkz ?_); refine jky (y_build (Built.agg rfl rfl rfl (by repeat constructor) (Built.cell rfl rfl rfl (by repeat constructor) (Built.cell rfl rfl rfl (by repeat constructor) Built.nil)))) ?_; (iterate 2 refine jkz ?_); refine js_w rfl rfl (w_storeAgg rfl rfl rfl rfl (by first | exact rep0 | exact rep1 | exact rep2 | exact rep3 | exact rep4) (by repeat constructor)) (by intro _ h; exact h.part (.cons (by first | exact del0 | exact del1 | exact del2 | exact del3 | exact del4 | exact del5) (.cons (by first | exact del0 | exact del1 | exact del2 | exact del3 | exact del4 | exact del5) .nil))) ?_; refine jkz ?_; refine js_nil ?_; refine jz ?_; refine jnt ?_; refine jc_ret ?_; refine jq_res (.inl rfl) rfl (.tmp rfl (rca (.tmp rfl (.tmp rfl .nil)))) ?_
             exact fun w' hw => by
              obtain ⟨ho, he⟩ := take_pos (ch := ch) (cl := cl) (nx := nx) hi hlt hxe
              have e0 : takeE ⟨ch, cl, nx, l⟩ t = 0 := by rw [he, if_neg (fun h => h (tk_eq hser (of_ndec h33) (by omega) (by omega) (by omega) (of_ndec h60))), if_neg (show ¬ o.taken = true by rw [show o.taken = false by assumption]; decide), if_pos (show signedB cl t = true by assumption)]
              have e1 : takeB ⟨ch, cl, nx, l⟩ t = ⟨ch, cl, nx, l.set i { o with taken := true }⟩ := by
               unfold takeB; rw [if_pos e0, ho]; show Bk.mk _ _ _ (l.set (findL l t.serial).toNat _) = _; rw [hi]; rfl
              have e2 : takeV ⟨ch, cl, nx, l⟩ t = nomV o.face o.wins o.many := by unfold takeV; rw [if_pos e0, ho]
              have e3 : takeW ⟨ch, cl, nx, l⟩ t = ⟨t, o.salt, o.drawn⟩ := by unfold takeW; rw [if_pos e0, ho]
              have e4 : takeI ⟨ch, cl, nx, l⟩ t = winsB o.drawn t.client o.wins o.many := by unfold takeI; rw [if_pos e0, ho]
              rw [e1, e2, e3, e4, e0]
              have hfl : (l.flatMap Of.c).set (i * 9 + 8) (.bool true) = (l.set i { o with taken := true }).flatMap Of.c := by have h := flat_off (l := l) hlt (by rw [hxe]; assumption); rw [hxe] at h; exact h
              refine ⟨(some ⟨b79, 0, none⟩, c79), rfl, (hw.part (F := [.row (some ⟨b79, 0, none⟩) (0 + l.length) c79 55 9 (([] ++ l.flatMap Of.c).set (i * 9 + 8) (.bool true)), .cells b [.string ch, .string cl, .int .u64 nx, .slice (some ⟨b79, 0, none⟩) (0 + l.length) c79]]) (.cons (by first | exact del0 | exact del1 | exact del2 | exact del3 | exact del4 | exact del5) (.cons (by first | exact del0 | exact del1 | exact del2 | exact del3 | exact del4 | exact del5) .nil))).cast ?_⟩
              show _ = [Bk.rr (l.set i { o with taken := true }) (some ⟨b79, 0, none⟩) c79, .cells b [.string ch, .string cl, .int .u64 nx, .slice (some ⟨b79, 0, none⟩) (l.set i { o with taken := true }).length c79]]
              unfold Bk.rr
              rw [List.length_set, List.nil_append, hfl, Nat.zero_add]
            ·skip
             refine juz ?_; refine ju_nil ?_; refine jq_then ?_; refine jc_true rfl ?_; refine jsr ?_; refine jy (y_build Built.nil) ?_; refine jz ?_; refine jst ?_; (iterate 2 refine jz ?_); refine jnt ?_; refine jc_ret ?_; refine jq_then_ret ?_; refine jq_res (.inl rfl) rfl (.tmp rfl (rca (.tmp rfl (.tmp rfl .nil)))) ?_
             exact fun w' hw => by
              have e0 : takeE ⟨ch, cl, nx, l⟩ t = 10 := by
               rw [(take_pos hi hlt hxe).2, if_neg (fun h => h (tk_eq hser (of_ndec h33) (by omega) (by omega) (by omega) (of_ndec h60))), if_neg (show ¬ o.taken = true by rw [show o.taken = false by assumption]; decide), if_neg (show ¬ signedB cl t = true by rw [show signedB cl t = false by assumption]; decide)]
              have hn : ¬ takeE ⟨ch, cl, nx, l⟩ t = 0 := by rw [e0]; decide
              have e1 : takeB ⟨ch, cl, nx, l⟩ t = ⟨ch, cl, nx, l⟩ := if_neg hn
              have e2 : takeV ⟨ch, cl, nx, l⟩ t = 0 := if_neg hn
              have e3 : takeW ⟨ch, cl, nx, l⟩ t = wn0 := if_neg hn
              have e4 : takeI ⟨ch, cl, nx, l⟩ t = false := if_neg hn
              rw [e1, e2, e3, e4, e0]
              exact ⟨(ad, c), rfl, (hw.part (F := [Bk.rr l ad c, .cells b [.string ch, .string cl, .int .u64 nx, .slice ad l.length c]]) (.cons (by first | exact del0 | exact del1 | exact del2 | exact del3 | exact del4 | exact del5) (.cons (by first | exact del0 | exact del1 | exact del2 | exact del3 | exact del4 | exact del5) .nil)))⟩
          )
        )
      )
   )

end Go.Proofs.YtghomncegjamfaaGreat