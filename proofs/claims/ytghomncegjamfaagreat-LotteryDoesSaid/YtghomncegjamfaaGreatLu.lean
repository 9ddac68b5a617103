/- The walks of package lottery, part two: what turns a book. Written by program (walk.py) out of a table of contracts and invariants. -/
import Derived.Test.YtghomncegjamfaaGreatNw
import Derived.Test.YtghomncegjamfaaGreatJw
import Derived.Test.YtghomncegjamfaaGreatMlop
namespace Go.Proofs.YtghomncegjamfaaGreat
open Go.RowKit
set_option maxRecDepth 100000
set_option maxHeartbeats 2000000
set_option linter.unusedVariables false
set_option linter.unusedSimpArgs false
attribute [local irreducible] Yields Makes Writes
theorem el_none {α : Type} {w : World} {n : Nat} {c : α → List Value} {l : List α} (h : ElAt w none n (l.map c)) : l = [] := by
  cases l with
  | nil => rfl
  | cons x l => obtain ⟨b, o, e, _⟩ := h.get (i := 0) (by simp); cases e
theorem flat_len {α : Type} {c : α → List Value} {n : Nat} (hc : ∀ x, (c x).length = n) : ∀ l : List α, (l.flatMap c).length = l.length * n
  | [] => by simp
  | x :: l => by rw [List.flatMap_cons, List.length_append, hc, flat_len hc l, List.length_cons, Nat.succ_mul]; omega
theorem flat_one {α : Type} {c : α → List Value} (hc : ∀ x, (c x).all Value.oneCell' = true) (l : List α) : (l.flatMap c).all Value.oneCell' = true := by
  rw [List.all_eq_true]
  intro v hv
  obtain ⟨x, _, hx⟩ := List.mem_flatMap.1 hv
  exact List.all_eq_true.1 (hc x) v hx
theorem el_flat {α : Type} {w : World} {src : Addr} {n : Nat} {c : α → List Value} {l : List α} (hn : 0 < n) (hc : ∀ x, (c x).length = n) (h : ElAt w (some src) n (l.map c)) : ∀ j u, (l.flatMap c)[j]? = some u → w.cell? (src.add j) = some u := fun j u hj => by
  have hjl := (List.getElem?_eq_some_iff.1 hj).1
  rw [flat_len hc] at hjl
  have hi : j / n < l.length := Nat.div_lt_of_lt_mul (by rw [Nat.mul_comm]; exact hjl)
  obtain ⟨b, o, e, ho⟩ := h.get hi
  cases e
  have hd := Nat.div_add_mod j n
  have hm := Nat.mod_lt j hn
  have h1 := flat_get hc l (j / n) (j % n) hi hm
  rw [show j / n * n + j % n = j by rw [Nat.mul_comm]; exact hd, hj] at h1
  have h2 := ho (j % n) u h1.symm
  rw [addr_add]
  rwa [show o + j / n * n + j % n = o + j by rw [Nat.add_assoc, Nat.mul_comm, hd]] at h2
def cutS (s : ByteArray) (n : Nat) : ByteArray := s.extract 0 (min s.size n)
theorem cutS_size (s : ByteArray) (n : Nat) : (cutS s n).size ≤ n := by simp [cutS]; omega
theorem cut_eq (s : ByteArray) (n : Nat) : s.extract 0 (min (s.size : Int) (n : Int)).toNat = cutS s n := by
  unfold cutS; congr 1; omega
def ctOf (o : Of) : Of := ⟨cutS o.chan 40, o.serial, o.face, o.wins, o.many, cutS o.commit 40, cutS o.salt 40, o.drawn, o.taken⟩
theorem openL_range (l : List Of) (h : ∀ o ∈ l, fits .u64 o.face) : fits .u64 (openL l) := by
  refine snoc_ind (P := fun l => (∀ o ∈ l, fits .u64 o.face) → fits .u64 (openL l)) (fun _ => ⟨by decide, by decide⟩) (fun l o ih h2 => ?_) l h
  rw [openL_snoc]
  have h3 := ih fun x hx => h2 x (List.mem_append_left _ hx)
  split
  · exact h3
  · simp only [fits]; omega

theorem lchan_any (w : World) :
  Calls Tryz.prog 39 #[] w fun e w' => e = .returned (.string strCh) ∧ Ch [] w w' := by
 refine calls_of (n := 1) (E := []) (W := Hp w [] []) Tryz.func39 rfl rfl (Nat.le_of_ble_eq_true rfl) rfl (Hp.nil _ _) ?_; refine jsr ?_; refine jz ?_; refine jnt ?_; refine jsr ?_; refine jz ?_; refine jnt ?_; refine jc_ret ?_; refine jq_ret1 rfl rfl ?_; exact fun _ hw => ⟨rfl, hw.ch⟩

theorem lshown_any (o : Of) (w : World) :
  Calls Tryz.prog 17 #[.agg (Of.c o).toArray] w fun e w' => e = .returned (.agg (Of.c (shownO o)).toArray) ∧ Ch [] w w' := by
 refine calls_of (n := 7) (E := [(0, .agg (Of.c o).toArray)]) (W := Hp w [] []) Tryz.func17 rfl rfl (Nat.le_of_ble_eq_true rfl) rfl (Hp.nil _ _) ?_; refine jsr ?_; refine jl_m rfl (by decide) rfl (m_box rfl rfl) (fun b1 => ?_); refine jl_m rfl (by decide) rfl (m_alloc) (fun b2 => ?_); refine jnt ?_; refine jsr ?_; refine jz ?_; refine jst ?_; refine jz ?_; refine jst ?_; refine jz ?_; refine jst ?_; refine jnt ?_; refine jsr ?_; refine jz ?_; refine jst ?_; refine jnt ?_; refine jc_ret ?_; refine jq_res (.inl rfl) rfl (rca .nil) ?_; exact fun _ hw => ⟨rfl, hw.ch⟩

theorem lticket_any (o : Of) (n : Int) (w : World) :
  Calls Tryz.prog 18 #[.agg (Of.c o).toArray, .int .u64 n] w fun e w' => e = .returned (.agg (Tk.c (tkOf o n)).toArray) ∧ Ch [] w w' := by
 refine calls_of (n := 19) (E := [(0, .agg (Of.c o).toArray), (1, .int .u64 n)]) (W := Hp w [] []) Tryz.func18 rfl rfl (Nat.le_of_ble_eq_true rfl) rfl (Hp.nil _ _) ?_; refine jsr ?_; refine jl_m rfl (by decide) rfl (m_box rfl rfl) (fun b2 => ?_); refine jl_m rfl (by decide) rfl (m_alloc) (fun b4 => ?_); refine jnt ?_; refine jsr ?_; (iterate 13 refine jz ?_); refine jy (y_build (Built.cell rfl rfl rfl (by repeat constructor) (Built.cell rfl rfl rfl (by repeat constructor) (Built.cell rfl rfl rfl (by repeat constructor) (Built.cell rfl rfl rfl (by repeat constructor) (Built.cell rfl rfl rfl (by repeat constructor) (Built.cell rfl rfl rfl (by repeat constructor) (Built.cell rfl rfl rfl (by repeat constructor) Built.nil)))))))) ?_; refine jst ?_; refine jnt ?_; refine jc_ret ?_; refine jq_res (.inl rfl) rfl (rca .nil) ?_; exact fun _ hw => ⟨rfl, hw.ch⟩

theorem lcut_any (o : Of) (w : World) :
  Calls Tryz.prog 16 #[.agg (Of.c o).toArray] w fun e w' => e = .returned (.agg (Of.c (ctOf o)).toArray) ∧ Ch [] w w' := by
 refine calls_of (n := 28) (E := [(0, .agg (Of.c o).toArray)]) (W := Hp w [] []) Tryz.func16 rfl rfl (Nat.le_of_ble_eq_true rfl) rfl (Hp.nil _ _) ?_; refine jsr ?_; refine jl_m rfl (by decide) rfl (m_box rfl rfl) (fun b1 => ?_); refine jl_m rfl (by decide) rfl (m_alloc) (fun b2 => ?_); refine jnt ?_; refine jsr ?_; (iterate 4 refine jz ?_); refine jy (y_len_str rfl) ?_; refine jy (y_min rfl rfl) ?_; refine jy (y_substr_hi rfl rfl (by omega) (by omega)) ?_; refine jl_as (congrArg Value.string (cut_eq _ 40)) ?_; refine jz ?_; refine jst ?_; refine jnt ?_; refine jsr ?_; (iterate 4 refine jz ?_); refine jy (y_len_str rfl) ?_; refine jy (y_min rfl rfl) ?_; refine jy (y_substr_hi rfl rfl (by omega) (by omega)) ?_; refine jl_as (congrArg Value.string (cut_eq _ 40)) ?_; refine jz ?_; refine jst ?_; refine jnt ?_; refine jsr ?_; (iterate 4 refine jz ?_); refine jy (y_len_str rfl) ?_; refine jy (y_min rfl rfl) ?_; refine jy (y_substr_hi rfl rfl (by omega) (by omega)) ?_; refine jl_as (congrArg Value.string (cut_eq _ 40)) ?_; refine jz ?_; refine jst ?_; refine jnt ?_; refine jsr ?_; refine jz ?_; refine jst ?_; refine jnt ?_; refine jc_ret ?_; refine jq_res (.inl rfl) rfl (rca .nil) ?_; exact fun _ hw => ⟨rfl, hw.ch⟩

theorem lref_any (o : Of) (w : World) :
  Calls Tryz.prog 21 #[.agg (Of.c o).toArray] w fun e w' => e = .returned (.agg (Of.c o).toArray) ∧ Ch [] w w' := by
 refine calls_of (n := 22) (E := [(0, .agg (Of.c o).toArray)]) (W := Hp w [] []) Tryz.func21 rfl rfl (Nat.le_of_ble_eq_true rfl) rfl (Hp.nil _ _) ?_; refine jsr ?_; refine jl_m rfl (by decide) rfl (m_box rfl rfl) (fun b1 => ?_); refine jl_m rfl (by decide) rfl (m_alloc) (fun b2 => ?_); refine jnt ?_; refine jsr ?_; (iterate 18 refine jz ?_); refine jy (y_build (Built.cell rfl rfl rfl (by repeat constructor) (Built.cell rfl rfl rfl (by repeat constructor) (Built.cell rfl rfl rfl (by repeat constructor) (Built.cell rfl rfl rfl (by repeat constructor) (Built.cell rfl rfl rfl (by repeat constructor) (Built.cell rfl rfl rfl (by repeat constructor) (Built.cell rfl rfl rfl (by repeat constructor) (Built.cell rfl rfl rfl (by repeat constructor) (Built.cell rfl rfl rfl (by repeat constructor) Built.nil)))))))))) ?_; refine jst ?_; refine jnt ?_; refine jc_ret ?_; refine jq_res (.inl rfl) rfl (rca .nil) ?_; exact fun _ hw => ⟨rfl, hw.ch⟩

theorem lnew_ok (ch cl : ByteArray) (w : World) (h1 : ch.size = 16) (h2 : cl.size = 16) :
  Calls Tryz.prog 4 #[.string ch, .string cl] w fun e w' => ∃ b, e = .returned (.tuple #[.pointer (some ⟨b, 0, none⟩), .int .i64 0]) ∧ Fresh w w' (.cells b [.string ch, .string cl, .int .u64 1, .slice none 0 0]) := by
 refine calls_of (n := 18) (E := [(0, .string ch), (1, .string cl)]) (W := Hp w [] []) Tryz.func4 rfl rfl (Nat.le_of_ble_eq_true rfl) rfl (Hp.nil _ _) ?_; refine jsr ?_; (iterate 2 refine jz ?_); refine jnt ?_; refine jc_seq ?_; refine jsr ?_; refine jz ?_; refine jy (y_len_str rfl) ?_; refine jy (y_neq rfl rfl) ?_; refine jl_prop (fun h8 => ?_) (fun h8 => ?_)
 ·first | (exfalso; omega) | (refine jz ?_; (iterate 3 refine jsk ?_); refine jy (y_pick_true rfl rfl) ?_; refine jnt ?_; refine jc_true rfl ?_; refine jsr ?_; (iterate 2 refine jz ?_); refine jnt ?_; refine jc_ret ?_; refine jq_then_ret ?_; refine jq_ret2 rfl rfl rfl ?_; exact fun w' hw => ⟨b17, rfl, hw.fresh⟩)
 ·first | (exfalso; omega) | (
   (iterate 2 refine jz ?_); refine jy (y_len_str rfl) ?_; refine jy (y_neq rfl rfl) ?_; refine jl_prop (fun h12 => ?_) (fun h12 => ?_)
   ·first | (exfalso; omega) | (refine jy (y_pick_false rfl rfl) ?_; refine jnt ?_; refine jc_true rfl ?_; refine jsr ?_; (iterate 2 refine jz ?_); refine jnt ?_; refine jc_ret ?_; refine jq_then_ret ?_; refine jq_ret2 rfl rfl rfl ?_; exact fun w' hw => ⟨b17, rfl, hw.fresh⟩)
   ·first | (exfalso; omega) | (refine jy (y_pick_false rfl rfl) ?_; refine jnt ?_; refine jc_false rfl ?_; refine jc_skip ?_; refine jq_then ?_; refine jsr ?_; (iterate 2 refine jz ?_); refine jy (y_build (Built.cell rfl rfl rfl (by repeat constructor) (Built.cell rfl rfl rfl (by repeat constructor) (Built.cell rfl rfl rfl (by repeat constructor) Built.nil)))) ?_; refine jl_m rfl (by decide) rfl (m_box rfl rfl) (fun b17 => ?_); (iterate 2 refine jz ?_); refine jnt ?_; refine jc_ret ?_; refine jq_ret2 rfl rfl rfl ?_; exact fun w' hw => ⟨b17, rfl, hw.fresh⟩)
   )

theorem lnew_bad (ch cl : ByteArray) (w : World) (h1 : ¬ (ch.size = 16 ∧ cl.size = 16)) :
  Calls Tryz.prog 4 #[.string ch, .string cl] w fun e w' => e = .returned (.tuple #[.pointer none, .int .i64 1]) ∧ Ch [] w w' := by
 refine calls_of (n := 18) (E := [(0, .string ch), (1, .string cl)]) (W := Hp w [] []) Tryz.func4 rfl rfl (Nat.le_of_ble_eq_true rfl) rfl (Hp.nil _ _) ?_; refine jsr ?_; (iterate 2 refine jz ?_); refine jnt ?_; refine jc_seq ?_; refine jsr ?_; refine jz ?_; refine jy (y_len_str rfl) ?_; refine jy (y_neq rfl rfl) ?_; refine jl_prop (fun h8 => ?_) (fun h8 => ?_)
 ·first | (exfalso; omega) | (refine jz ?_; (iterate 3 refine jsk ?_); refine jy (y_pick_true rfl rfl) ?_; refine jnt ?_; refine jc_true rfl ?_; refine jsr ?_; (iterate 2 refine jz ?_); refine jnt ?_; refine jc_ret ?_; refine jq_then_ret ?_; refine jq_ret2 rfl rfl rfl ?_; exact fun _ hw => ⟨rfl, hw.ch⟩)
 ·first | (exfalso; omega) | (
   (iterate 2 refine jz ?_); refine jy (y_len_str rfl) ?_; refine jy (y_neq rfl rfl) ?_; refine jl_prop (fun h12 => ?_) (fun h12 => ?_)
   ·first | (exfalso; omega) | (refine jy (y_pick_false rfl rfl) ?_; refine jnt ?_; refine jc_true rfl ?_; refine jsr ?_; (iterate 2 refine jz ?_); refine jnt ?_; refine jc_ret ?_; refine jq_then_ret ?_; refine jq_ret2 rfl rfl rfl ?_; exact fun _ hw => ⟨rfl, hw.ch⟩)
   ·first | (exfalso; omega) | (refine jy (y_pick_false rfl rfl) ?_; refine jnt ?_; refine jc_false rfl ?_; refine jc_skip ?_; refine jq_then ?_; refine jsr ?_; (iterate 2 refine jz ?_); refine jy (y_build (Built.cell rfl rfl rfl (by repeat constructor) (Built.cell rfl rfl rfl (by repeat constructor) (Built.cell rfl rfl rfl (by repeat constructor) Built.nil)))) ?_; refine jl_m rfl (by decide) rfl (m_box rfl rfl) (fun b17 => ?_); (iterate 2 refine jz ?_); refine jnt ?_; refine jc_ret ?_; refine jq_ret2 rfl rfl rfl ?_; exact fun _ hw => ⟨rfl, hw.ch⟩)
   )

theorem lnext_any (b : Nat) (n : Int) (w : World) (h : CellAt w b 2 (.int .u64 n)) :
  Calls Tryz.prog 13 #[.pointer (some ⟨b, 0, none⟩)] w fun e w' => e = .returned (.int .u64 n) ∧ Ch [] w w' := by
 refine calls_of (n := 7) (E := [(0, .pointer (some ⟨b, 0, none⟩))]) (W := Hp w [] []) Tryz.func13 rfl rfl (Nat.le_of_ble_eq_true rfl) rfl (Hp.nil _ _) ?_; refine jsr ?_; refine jz ?_; refine jnt ?_; refine jsr ?_; (iterate 3 refine jz ?_); refine jy (y_load_old rfl h List.not_mem_nil) ?_; refine jz ?_; refine jnt ?_; refine jc_ret ?_; refine jq_ret1 rfl rfl ?_; exact fun _ hw => ⟨rfl, hw.ch⟩

theorem lopen_any (b : Nat) (ad : Option Addr) (l : List Of) (c : Nat) (w : World) (hl : l.length ≤ 1000) (h : CellAt w b 3 (.slice ad l.length c)) (hE : ElAt w ad 9 (l.map Of.c)) :
  Calls Tryz.prog 14 #[.pointer (some ⟨b, 0, none⟩)] w fun e w' => e = .returned (.int .u64 (openL l)) ∧ Ch [] w w' := by
 refine calls_of (n := 24) (E := [(0, .pointer (some ⟨b, 0, none⟩))]) (W := Hp w [] []) Tryz.func14 rfl rfl (Nat.le_of_ble_eq_true rfl) rfl (Hp.nil _ _) ?_; refine jsr ?_; refine jz ?_; refine jnt ?_; refine jsr ?_; refine jz ?_; refine jnt ?_; refine jc_seq ?_; refine jsr ?_; (iterate 3 refine jz ?_); refine jy (y_load_old rfl h List.not_mem_nil) ?_; refine jy (y_len_slice rfl) ?_; refine jz ?_; refine jnt ?_; refine jc_block ?_; refine jc_loop (fun (i : Nat) => [(3, .int .u64 (openL (l.take i))), (9, .slice ad l.length c), (10, .int .i64 l.length), (11, .int .i64 (i : Nat))]) (fun (i : Nat) => fun w' => i ≤ l.length ∧ Hp w [] [] w') (fun (i : Nat) => l.length - i) 0 ?_ ?_ ?_
 ·exact ⟨rfl, rfl, rfl, rfl, trivial⟩
 ·exact fun _ h => ⟨by omega, h⟩
 ·intro i
  refine jc_and (fun hi => ?_); refine jsr ?_; refine jy (y_lss rfl rfl) ?_; refine jl_prop (fun h12 => ?_) (fun h12 => ?_)
  ·first | (exfalso; omega) | (
    have hlt : i < l.length := by omega
    have hnx := openL_take hlt
    obtain ⟨bb, oo, ea, hold⟩ := hE.get hlt
    subst ea
    generalize hxe : l[i]'hlt = o at *
    refine jnt ?_; refine jc_seq ?_; refine jc_true rfl ?_; refine jc_skip ?_; refine jq_then ?_; refine jc_seq ?_; refine jc_block ?_; refine jsr ?_; refine jy (y_indexAddr_slice (off := oo + i * 9) rfl rfl (by omega) (by omega) (by omega)) ?_; refine jy (y_loadAgg_old rfl rfl hold (by simp)) ?_; refine jl_m rfl (by decide) rfl (m_alloc) (fun b5 => ?_); refine jst ?_; refine jnt ?_; refine jsr ?_; (iterate 2 refine jz ?_); refine jl_bool (fun h16 => ?_) (fun h16 => ?_)
    ·skip
     refine jz ?_; refine jnt ?_; refine jc_false rfl ?_; refine jc_skip ?_; refine jq_block ?_; refine jq_then ?_; refine jc_region ?_; refine jy (yaf rfl rfl) ?_; refine jz ?_; refine jl_nil ?_; refine jq_round (i := i) (i + 1) ?_ ?_ ?_
     ·omega
     ·exact ⟨lk_int rfl (by rw [hnx, if_pos (by assumption)]), rfl, rfl, lk_int rfl (by omega), trivial⟩
     ·exact fun _ h => ⟨by omega, h.part .nil⟩
    ·skip
     refine jz ?_; refine jnt ?_; refine jc_true rfl ?_; refine jc_region ?_; (iterate 3 refine jz ?_); refine jy (y_add_u64 rfl rfl) ?_; refine jz ?_; refine jl_nil ?_; refine jq_block ?_; refine jq_then ?_; refine jc_region ?_; refine jy (yaf rfl rfl) ?_; refine jz ?_; refine jl_nil ?_; refine jq_round (i := i) (i + 1) ?_ ?_ ?_
     ·omega
     ·exact ⟨lk_int rfl (by rw [hnx, if_neg (by rw [show o.taken = false by assumption]; decide)]), rfl, rfl, lk_int rfl (by omega), trivial⟩
     ·exact fun _ h => ⟨by omega, h.part .nil⟩
    )
  ·first | (exfalso; omega) | (refine jnt ?_; refine jc_seq ?_; refine jc_false rfl ?_; refine jc_exit ?_; (iterate 2 refine jq_then_exit ?_); refine jq_hit ?_; refine jq_then ?_; refine jsr ?_; (iterate 2 refine jz ?_); refine jnt ?_; refine jc_ret ?_; refine jq_ret1 rfl rfl ?_; exact fun _ hw => ⟨by rw [List.take_of_length_le (by omega)], hw.ch⟩)

theorem lfind1_any (o : Of) (p : Nat) (s : Int) (w : World) (h : CellAt w p 0 (.int .u64 s)) :
  Calls Tryz.prog 52 #[.agg (Of.c o).toArray, .pointer (some ⟨p, 0, none⟩)] w fun e w' => e = .returned (.bool (decide (o.serial = s))) ∧ Ch [] w w' := by
 refine calls_of (n := 8) (E := [(0, .agg (Of.c o).toArray), (1, .pointer (some ⟨p, 0, none⟩))]) (W := Hp w [] []) Tryz.func52 rfl rfl (Nat.le_of_ble_eq_true rfl) rfl (Hp.nil _ _) ?_; refine jsr ?_; refine jl_m rfl (by decide) rfl (m_box rfl rfl) (fun b2 => ?_); refine jz ?_; refine jnt ?_; refine jsr ?_; (iterate 2 refine jz ?_); refine jy (y_load_old rfl h List.not_mem_nil) ?_; refine jy (y_eql rfl rfl) ?_; refine jz ?_; refine jnt ?_; refine jc_ret ?_; refine jq_ret1 rfl rfl ?_; exact fun _ hw => ⟨rfl, hw.ch⟩

theorem idxL_any (ad : Option Addr) (l : List Of) (c : Nat) (p : Nat) (s : Int) (w : World) (hl : l.length ≤ 1000) (hE : ElAt w ad 9 (l.map Of.c)) (hp : CellAt w p 0 (.int .u64 s)) :
  Calls Tryz.prog 51 #[.slice ad l.length c, .func (.func 52) #[] #[.pointer (some ⟨p, 0, none⟩)]] w fun e w' => e = .returned (.int .i64 (findL l s)) ∧ Ch [] w w' := by
 refine calls_of (n := 19) (E := [(0, .slice ad l.length c), (1, .func (.func 52) #[] #[.pointer (some ⟨p, 0, none⟩)])]) (W := Hp w [] []) Tryz.func51 rfl rfl (Nat.le_of_ble_eq_true rfl) rfl (Hp.nil _ _) ?_; refine jsr ?_; refine jz ?_; refine jnt ?_; refine jc_seq ?_; refine jsr ?_; refine jz ?_; refine jy (y_len_slice rfl) ?_; refine jz ?_; refine jnt ?_; refine jc_block ?_; refine jc_loop (fun (i : Nat) => [(0, .slice ad l.length c), (1, .func (.func 52) #[] #[.pointer (some ⟨p, 0, none⟩)]), (7, .int .i64 l.length), (8, .int .i64 (i : Nat))]) (fun (i : Nat) => fun w' => (i ≤ l.length ∧ ∀ j z, j < i → l[j]? = some z → decide (z.serial = s) = false) ∧ Hp w [] [] w') (fun (i : Nat) => l.length - i) 0 ?_ ?_ ?_
 ·exact ⟨rfl, rfl, rfl, rfl, trivial⟩
 ·exact fun _ h => ⟨⟨by omega, fun j z hj _ => absurd hj (by omega)⟩, h⟩
 ·intro i
  refine jc_and (fun hi2 => ?_)
  obtain ⟨hi, hno⟩ := hi2
  refine jsr ?_; refine jy (y_lss rfl rfl) ?_; refine jl_prop (fun h9 => ?_) (fun h9 => ?_)
  ·first | (exfalso; omega) | (
    have hlt : i < l.length := by omega
    obtain ⟨bb, oo, ea, hold⟩ := hE.get hlt
    subst ea
    generalize hxe : l[i]'hlt = o at *
    refine jnt ?_; refine jc_seq ?_; refine jc_true rfl ?_; refine jc_skip ?_; refine jq_then ?_; refine jc_seq ?_; refine jc_block ?_; refine jsr ?_; (iterate 2 refine jz ?_); refine jnt ?_; refine jsr ?_; (iterate 3 refine jz ?_); refine jy (y_indexAddr_slice (off := oo + i * 9) rfl rfl (by omega) (by omega) (by omega)) ?_; refine jy (y_loadAgg_old rfl rfl hold (by simp)) ?_; refine jl_pcall rfl (by decide) rfl (goes_value rfl rfl) (fun w1 hw1 => pcall hw1 (lfind1_any o p s w1 (hp.keep hw1))) ?_; refine jl_bool (fun h16 => ?_) (fun h16 => ?_)
    ·skip
     refine jnt ?_; refine jc_true rfl ?_; refine jsr ?_; (iterate 2 refine jz ?_); refine jnt ?_; refine jc_ret ?_; refine jq_block_ret ?_; (iterate 2 refine jq_then_ret ?_); refine jq_block_ret ?_; refine jq_then_ret ?_; refine jq_ret1 rfl rfl ?_; exact fun _ hw => ⟨by unfold findL; rw [idx_hit hno (by rw [List.getElem?_eq_getElem hlt, hxe]) h16], hw.ch⟩
    ·skip
     refine jnt ?_; refine jc_false rfl ?_; refine jc_skip ?_; refine jq_block ?_; refine jq_then ?_; refine jc_region ?_; refine jy (yaf rfl rfl) ?_; refine jz ?_; refine jl_nil ?_; refine jq_round (i := i) (i + 1) ?_ ?_ ?_
     ·omega
     ·exact ⟨rfl, rfl, rfl, lk_int rfl (by omega), trivial⟩
     ·exact fun _ h => ⟨⟨by omega, fun j z hj hz => (Nat.lt_succ_iff_lt_or_eq.1 hj).elim (fun h2 => hno j z h2 hz) (fun e => by subst e; rw [List.getElem?_eq_getElem hlt, hxe] at hz; cases hz; exact h16)⟩, h⟩
    )
  ·first | (exfalso; omega) | (refine jnt ?_; refine jc_seq ?_; refine jc_false rfl ?_; refine jc_exit ?_; (iterate 2 refine jq_then_exit ?_); refine jq_hit ?_; refine jq_then ?_; refine jsr ?_; refine jz ?_; refine jnt ?_; refine jc_ret ?_; refine jq_ret1 rfl rfl ?_; exact fun _ hw => ⟨by unfold findL; rw [idx_none (fun j z hj => hno j z (by omega))], hw.ch⟩)

theorem lfind_any (b : Nat) (ad : Option Addr) (l : List Of) (c : Nat) (w : World) (hl : l.length ≤ 1000) (h : CellAt w b 3 (.slice ad l.length c)) (hE : ElAt w ad 9 (l.map Of.c)) (s : Int) :
  Calls Tryz.prog 28 #[.pointer (some ⟨b, 0, none⟩), .int .u64 s] w fun e w' => e = .returned (.int .i64 (findL l s)) ∧ Ch [] w w' := by
 refine calls_of (n := 11) (E := [(0, .pointer (some ⟨b, 0, none⟩)), (1, .int .u64 s)]) (W := Hp w [] []) Tryz.func28 rfl rfl (Nat.le_of_ble_eq_true rfl) rfl (Hp.nil _ _) ?_; refine jsr ?_; refine jl_m rfl (by decide) rfl (m_box rfl rfl) (fun b3 => ?_); refine jz ?_; refine jnt ?_; refine jsr ?_; (iterate 3 refine jz ?_); refine jy (y_load_old rfl h List.not_mem_nil) ?_; refine jy (y_makeFunc rfl rfl) ?_; refine jpc (goes_func rfl) (fun w1 hw1 => idxL_any ad l c b3 s w1 hl (hE.keep hw1) (CellAt.of_cells (hw1.get mem0) rfl)) ?_; refine jz ?_; refine jnt ?_; refine jc_ret ?_; refine jq_ret1 rfl rfl ?_; exact fun _ hw => ⟨rfl, hw.ch⟩

theorem lroom_any (b : Nat) (ad : Option Addr) (l : List Of) (c : Nat) (w : World) (hl : l.length ≤ 1000) (h : CellAt w b 3 (.slice ad l.length c)) (hE : ElAt w ad 9 (l.map Of.c)) (hf : ∀ o ∈ l, fits .u64 o.face) (f : Int) (hff : fits .u64 f) :
  Calls Tryz.prog 25 #[.pointer (some ⟨b, 0, none⟩), .int .u64 f] w fun e w' => e = .returned (.int .i64 (roomE l f)) ∧ Ch [] w w' := by
 refine calls_of (n := 21) (E := [(0, .pointer (some ⟨b, 0, none⟩)), (1, .int .u64 f)]) (W := Hp w [] []) Tryz.func25 rfl rfl (Nat.le_of_ble_eq_true rfl) rfl (Hp.nil _ _) ?_; refine jsr ?_; refine jz ?_; refine jnt ?_; refine jc_seq ?_; refine jsr ?_; (iterate 3 refine jz ?_); refine jy (y_load_old rfl h List.not_mem_nil) ?_; refine jy (y_len_slice rfl) ?_; refine jy (y_geq rfl rfl) ?_; refine jl_prop (fun h12 => ?_) (fun h12 => ?_)
 ·first | (exfalso; omega) | (refine jnt ?_; refine jc_true rfl ?_; refine jsr ?_; refine jz ?_; refine jnt ?_; refine jc_ret ?_; refine jq_then_ret ?_; refine jq_ret1 rfl rfl ?_; exact fun _ hw => ⟨by unfold roomE; rw [if_pos (by omega)], hw.ch⟩)
 ·first | (exfalso; omega) | (refine jnt ?_; refine jc_false rfl ?_; refine jc_skip ?_; refine jq_then ?_; refine jsr ?_; refine jz ?_; refine jpc (goes_func rfl) (fun w1 hw1 => lopen_any b ad l c w1 hl (h.keep hw1) (hE.keep hw1)) ?_; refine jz ?_; refine jpc (goes_func rfl) (fun w1 hw1 => add_any (openL l) f w1 (openL_range l hf) hff) ?_; (iterate 5 refine jz ?_); refine jnt ?_; refine jsr ?_; (iterate 2 refine jz ?_); refine jnt ?_; refine jc_ret ?_; refine jq_ret1 rfl rfl ?_; exact fun _ hw => ⟨by unfold roomE; rw [if_neg (by omega)] <;> rfl, hw.ch⟩)

theorem cloneOf_any (ad : Option Addr) (c : Nat) (l : List Of) (w : World) (hl : l.length ≤ 1000000) (hE : ElAt w ad 9 (l.map Of.c)) :
  Calls Tryz.prog 27 #[.slice ad l.length c] w fun e w' => ∃ pr : Option Addr × Nat, e = .returned (.slice pr.1 l.length pr.2) ∧ Fresh w w' (.row pr.1 l.length pr.2 32 9 (l.flatMap Of.c)) := by
 refine calls_of (n := 8) (E := [(0, .slice ad l.length c)]) (W := Hp w [] []) Tryz.func27 rfl rfl (Nat.le_of_ble_eq_true rfl) rfl (Hp.nil _ _) ?_; refine jsr ?_; refine jz ?_; refine jnt ?_; iterate 2 refine jc_seq ?_
 rcases ad with _ | ⟨bq, oq, sq⟩
 ·skip
  refine jc_region ?_; refine jz ?_; refine jy (y_eql_snil rfl rfl) ?_; refine jl_as (u := .bool true) rfl ?_; refine jnt ?_; refine jc_true rfl ?_; refine jc_seq ?_
  have hl0 := el_none hE
  subst hl0
  refine jc_region ?_; refine jz ?_; refine jnt ?_; refine jc_ret ?_; refine jq_then_ret ?_; refine jq_ret1 rfl rfl ?_; exact fun _ hw => ⟨(none, 0), rfl, (Hp.nilrow 32 9 hw).fresh⟩
 ·skip
  refine jc_region ?_; refine jz ?_; refine jy (y_eql_snil rfl rfl) ?_; refine jl_as (u := .bool false) rfl ?_; refine jnt ?_; refine jc_false rfl ?_; refine jc_skip ?_; refine jq_then ?_; refine jsr ?_; refine jl_m rfl (by decide) rfl (m_buildSlice (size := 9) (by decide) Built.nil) (fun b5 => ?_); refine jz ?_; refine jl_m2 rfl (by decide) rfl (m_append_of rfl rfl del0 (flat_len (n := 9) (c := Of.c) (fun _ => rfl) l) (fun w2 hw2 => el_flat (c := Of.c) (by decide) (fun _ => rfl) (hE.keep (hw2.part (F := []) .nil))) (flat_one (c := Of.c) (fun _ => rfl) l) (by omega) (by omega)) (fun a7 c7 => ?_); refine jz ?_; refine jnt ?_; refine jc_ret ?_; refine jq_ret1 rfl rfl ?_; exact fun _ hw => ⟨(a7, c7), by simp only [Nat.zero_add], by simp only [Nat.zero_add, List.nil_append] at hw; exact hw.fresh⟩

theorem loffers_any (b : Nat) (ad : Option Addr) (l : List Of) (c : Nat) (w : World) (hl : l.length ≤ 1000) (h : CellAt w b 3 (.slice ad l.length c)) (hE : ElAt w ad 9 (l.map Of.c)) :
  Calls Tryz.prog 12 #[.pointer (some ⟨b, 0, none⟩)] w fun e w' => ∃ b', e = .returned (.slice (some ⟨b', 0, none⟩) l.length l.length) ∧ Fresh w w' (.row (some ⟨b', 0, none⟩) l.length l.length 32 9 (l.flatMap Of.c)) := by
 refine calls_of (n := 17) (E := [(0, .pointer (some ⟨b, 0, none⟩))]) (W := Hp w [] []) Tryz.func12 rfl rfl (Nat.le_of_ble_eq_true rfl) rfl (Hp.nil _ _) ?_; refine jsr ?_; refine jz ?_; refine jnt ?_; refine jsr ?_; (iterate 3 refine jz ?_); refine jy (y_load_old rfl h List.not_mem_nil) ?_; refine jy (y_len_slice rfl) ?_; refine jl_m rfl (by decide) rfl (m_make rfl rfl (by first | omega | decide) (by first | omega | decide)) (fun b9 => ?_); refine jz ?_; refine jnt ?_; refine jsr ?_; (iterate 4 refine jz ?_); refine jy (y_load_old rfl h List.not_mem_nil) ?_
 refine jl_m rfl (by decide) rfl (m_copy rfl rfl rep0 (flat_len (n := 9) (c := Of.c) (fun _ => rfl) l) (fun w2 hw2 => by
   rcases ad with _ | src
   ·exact .inl ⟨rfl, by rw [el_none hE]; rfl⟩
   ·exact .inr ⟨src, rfl, el_flat (c := Of.c) (by decide) (fun _ => rfl) (hE.keep (hw2.part (F := []) .nil))⟩) (flat_one (c := Of.c) (fun _ => rfl) l)) (fun _ => ?_)
 refine jnt ?_; refine jsr ?_; (iterate 2 refine jz ?_); refine jnt ?_; refine jc_ret ?_; refine jq_ret1 rfl rfl ?_; exact fun w' hw => ⟨b9, rfl, hw.fresh⟩

end Go.Proofs.YtghomncegjamfaaGreat

namespace Go.Proofs.YtghomncegjamfaaGreat
open Go.RowKit
set_option maxRecDepth 100000
set_option maxHeartbeats 2000000
set_option linter.unusedVariables false
set_option linter.unusedSimpArgs false
attribute [local irreducible] Yields Makes Writes
theorem take_flat : ∀ (l : List Of) (k : Nat), (l.flatMap Of.c).take (k * 9) = (l.take k).flatMap Of.c
  | [], k => by simp
  | x :: l, 0 => by simp
  | x :: l, k + 1 => by
    rw [List.flatMap_cons, List.take_succ_cons, List.flatMap_cons, ← take_flat l k, show (k + 1) * 9 = (Of.c x).length + k * 9 by show _ = 9 + k * 9; omega, List.take_length_add_append]
theorem drop_flat : ∀ (l : List Of) (k : Nat), (l.flatMap Of.c).drop (k * 9) = (l.drop k).flatMap Of.c
  | [], k => by simp
  | x :: l, 0 => by simp
  | x :: l, k + 1 => by
    rw [List.flatMap_cons, List.drop_succ_cons, ← drop_flat l k, show (k + 1) * 9 = (Of.c x).length + k * 9 by show _ = 9 + k * 9; omega, List.drop_length_add_append]
theorem erase_flat (l : List Of) (i : Nat) : (l.flatMap Of.c).take (i * 9) ++ (l.drop (i + 1)).flatMap Of.c = (l.eraseIdx i).flatMap Of.c := by
  rw [take_flat, List.eraseIdx_eq_take_drop_succ, List.flatMap_append]
theorem sub_src (b c k : Nat) : ∃ src, subAd (some ⟨b, 0, none⟩) c k 9 = some src ∧ (k ≠ c → src = ⟨b, k * 9, none⟩) := by
  unfold subAd
  by_cases h : c = k
  · exact ⟨_, if_pos h, fun h2 => absurd h.symm h2⟩
  · exact ⟨_, if_neg h, fun _ => by show Addr.add ⟨b, 0, none⟩ _ = _; rw [addr_add, Nat.zero_add]⟩
theorem row_drop {w : World} {b c k j e : Nat} {l : List Of} {u : Value} (h : HA.ok w (.row (some ⟨b, 0, none⟩) l.length c e 9 (l.flatMap Of.c))) (hj : ((l.drop k).flatMap Of.c)[j]? = some u) : w.cell? ⟨b, k * 9 + j, none⟩ = some u := by
  rw [← drop_flat, List.getElem?_drop] at hj
  exact row_cell h hj
/-- A book's block. -/
abbrev Bk.h (B : Bk) (b : Nat) (ad : Option Addr) (c : Nat) : HA := .cells b [.string B.chan, .string B.cl, .int .u64 B.next, .slice ad B.l.length c]
/-- A book's row. -/
abbrev Bk.r (l : List Of) (ad : Option Addr) (c : Nat) : HA := .row ad l.length c 32 9 (l.flatMap Of.c)
/-- A call leaves the row, or makes a new one. -/
def RowT (w w' : World) (p p' : Option Addr × Nat) (l l' : List Of) : Prop := (p' = p ∧ l' = l) ∨ (HA.ok w' (Bk.r l' p'.1 p'.2) ∧ ∀ k, (Bk.r l' p'.1 p'.2).foot = some k → w.heap.size ≤ k)
theorem RowT.new {w w' : World} {b : Nat} {H : List HA} {p : Option Addr × Nat} {l l' : List Of} {ad : Option Addr} {n c : Nat} {A : HA} (h : Hp w [b] (.row ad n c 32 9 (l'.flatMap Of.c) :: H) w') (hn : n = l'.length) (hA : A ∈ H) (hf : A.foot = some b) : RowT w w' p (ad, c) l l' := by
  subst hn
  refine .inr ⟨h.get mem0, fun k hk => ?_⟩
  rcases h.own _ mem0 k hk with h2 | h2
  · exact h2
  · rw [List.mem_singleton.1 h2] at hk
    exact absurd hf ((List.pairwise_cons.1 h.apart).1 A hA b hk)
theorem Rep.perms {A A' : HA} {H H' : List HA} (r : Rep A A' H H') : ∃ R, H.Perm (A :: R) ∧ H'.Perm (A' :: R) := by
  induction r with
  | @head H => exact ⟨H, .refl _, .refl _⟩
  | @tail B H H' r ih =>
    obtain ⟨R, h1, h2⟩ := ih
    exact ⟨B :: R, (List.Perm.cons _ h1).trans (List.Perm.swap _ _ _), (List.Perm.cons _ h2).trans (List.Perm.swap _ _ _)⟩
/-- A book that was turned by a call, among the own blocks. -/
theorem book_hp {w0 w w' : World} {S : List Nat} {H H1 H' : List HA} {B B' : Bk} {b c : Nat} {ad : Option Addr} {pr : Option Addr × Nat} (hw : Hp w0 S H w) (r : Rep (B.h b ad c) (B'.h b pr.1 pr.2) H H1) (r2 : Rep (Bk.r B.l ad c) (Bk.r B'.l pr.1 pr.2) H1 H')
    (hu : Upd w w' (B.h b ad c) (B'.h b pr.1 pr.2)) (hr : RowT w w' (ad, c) pr B.l B'.l) : Hp w0 S H' w' := by
  have h1 : Hp w0 S H1 w' := hu.hp hw r rfl
  obtain ⟨R, p1, p2⟩ := r2.perms
  rcases hr with ⟨e1, e2⟩ | ⟨hok, hn⟩
  · refine h1.perm (p1.trans ?_)
    rw [show Bk.r B.l ad c = Bk.r B'.l pr.1 pr.2 by rw [e1, e2]]
    exact p2.symm
  · have h2 := (h1.perm p1).pop
    refine (h2.cons (A := Bk.r B'.l pr.1 pr.2) hok (fun k hk => .inl (Nat.le_trans hw.ch.size (hn k hk))) fun D hD k hk hd => ?_).perm p2.symm
    have hDH : D ∈ H1 := p1.mem_iff.2 (.tail _ hD)
    have h3 := hn k hk
    rcases r.old hDH with e | hDH
    · subst e
      have := HA.lt (hw.ok _ r.mem) (k := k) hd
      omega
    · have := HA.lt (hw.ok _ hDH) hd
      omega
/-- What a book reads of its row, which is own too. -/
theorem row_elO {w0 w : World} {S : List Nat} {H : List HA} {B : Bk} {b c : Nat} {ad : Option Addr} (h : Hp w0 S H w) (h1 : B.h b ad c ∈ H) (h2 : Bk.r B.l ad c ∈ H) : ElO w [b] ad 9 (B.l.map Of.c) := fun i cs hi => by
  obtain ⟨k, o, ea, h3⟩ := ElAt.of_row (c := Of.c) (fun _ => rfl) rfl (h.get h2) i cs hi
  subst ea
  refine ⟨k, o, rfl, fun hm => ?_, h3⟩
  have e : k = b := List.mem_singleton.1 hm
  subst e
  have h4 := List.pairwise_iff_getElem.1 h.apart
  obtain ⟨x, hx, ex⟩ := List.mem_iff_getElem.1 h1
  obtain ⟨y, hy, ey⟩ := List.mem_iff_getElem.1 h2
  rcases Nat.lt_trichotomy x y with q | q | q
  · exact h4 x y hx hy q k (by rw [ex]; rfl) (by rw [ey]; rfl)
  · subst q; rw [ex] at ey; cases ey
  · exact h4 y x hy hx q k (by rw [ey]; rfl) (by rw [ex]; rfl)
section
variable {P : Program} {n : Nat} {E : Env} {w0 : World} {S : List Nat} {H : List HA} {Q : Exit → Act → World → Prop} {ops : Array Oper} {rest : List Oper} {o : Oper} {d f : Nat} {args : Array Value} {v : Value}
/-- A call that turns a book. -/
theorem jl_bcall {H1 H' : Option Addr × Nat → List HA} {B B' : Bk} {b c : Nat} {ad : Option Addr} (hd : o.dst = some d) (hn : d < n) (hg : want ops E o = some true) (hf : Goes P n E o f args)
    (hc : ∀ w, Hp w0 S H w → Calls P f args w fun e w' => ∃ pr : Option Addr × Nat, e = .returned v ∧ Upd w w' (B.h b ad c) (B'.h b pr.1 pr.2) ∧ RowT w w' (ad, c) pr B.l B'.l)
    (r : ∀ pr : Option Addr × Nat, Rep (B.h b ad c) (B'.h b pr.1 pr.2) H (H1 pr)) (r2 : ∀ pr : Option Addr × Nat, Rep (Bk.r B.l ad c) (Bk.r B'.l pr.1 pr.2) (H1 pr) (H' pr)) (k : ∀ pr, JL P n Q (Hp w0 S (H' pr)) ops rest ((d, v) :: E)) : JL P n Q (Hp w0 S H) ops (o :: rest) E :=
  jl_call (v := fun _ => v) (W' := fun pr => Hp w0 S (H' pr)) hd hn hg hf (fun w hw => (hc w hw).mono fun _ _ ⟨pr, he, h1, h2⟩ => ⟨pr, he, book_hp hw (r pr) (r2 pr) h1 h2⟩) k
end

theorem delL_any (b : Nat) (l : List Of) (i : Nat) (p : Int) (c : Nat) (w : World) (hp : p = i) (hi : i < l.length) (hl : l.length ≤ 1000) (hA : HA.ok w (.row (some ⟨b, 0, none⟩) (l.length) c 32 9 ((l).flatMap Of.c))) :
  Calls Tryz.prog 29 #[.slice (some ⟨b, 0, none⟩) l.length c, .int .i64 p, .int .i64 (p + 1)] w fun e w' => e = .returned (.slice (some ⟨b, 0, none⟩) (l.length - 1) c) ∧ Upd w w' (.row (some ⟨b, 0, none⟩) (l.length) c 32 9 ((l).flatMap Of.c)) (.row (some ⟨b, 0, none⟩) (l.length - 1) c 32 9 ((l.eraseIdx i).flatMap Of.c)) := by
 have hcap := row_cap hA
 obtain ⟨src, hs1, hs2⟩ := sub_src b c (i + 1)
 obtain ⟨sr2, ht1, ht2⟩ := sub_src b c (l.length - 1)
 have htt := ht2 (by omega)
 subst htt
 refine calls_of (n := 33) (E := [(0, .slice (some ⟨b, 0, none⟩) l.length c), (1, .int .i64 p), (2, .int .i64 (p + 1))]) (W := Hp w [b] [.row (some ⟨b, 0, none⟩) (l.length) c 32 9 ((l).flatMap Of.c)]) Tryz.func29 rfl rfl (Nat.le_of_ble_eq_true rfl) rfl (Hp.start rfl hA) ?_; refine jsr ?_; refine jz ?_; refine jnt ?_; refine jsr ?_; (iterate 4 refine jz ?_); refine jy (y_len_slice rfl) ?_; refine jy (y_sl_full rfl rfl rfl rfl (by omega) (by omega) (by omega) (by omega)) ?_; refine jnt ?_; refine jc_seq ?_; refine jsr ?_; (iterate 2 refine jz ?_); refine jy (y_eql rfl rfl) ?_; refine jl_prop (fun h16 => ?_) (fun h16 => ?_)
 ·exfalso; omega
 ·first | (exfalso; omega) | (
   refine jnt ?_; refine jc_false rfl ?_; refine jc_skip ?_; refine jq_then ?_; refine jsr ?_; refine jz ?_; refine jy (y_len_slice rfl) ?_; refine jz ?_; refine jnt ?_; refine jc_seq ?_; refine jc_tail 6 (by kernel_rfl) (fun _ h => h.drew) ?_
   simp only [List.take_succ_cons, List.take_zero, List.drop_succ_cons, List.drop_zero]
   (iterate 2 refine jtz ?_); refine jty (y_sl_hi rfl rfl (by omega) (by omega)) ?_; refine jt_as (u := .slice (some ⟨b, 0, none⟩) i c) (by rw [hp]; rfl) ?_; (iterate 2 refine jtz ?_); refine jty (y_sl_lo rfl rfl (by omega) (by omega)) ?_; refine jt_as (u := .slice (some src) (l.length - (i + 1)) (c - (i + 1))) (by rw [← hs1, hp]; rfl) ?_; refine jt_nil ?_
   refine jl_m rfl (by decide) rfl (m_delete (i := i) (news := (l.drop (i + 1)).flatMap Of.c) rfl rfl del0 (by omega) (by rw [flat_len (n := 9) (c := Of.c) (fun _ => rfl), List.length_drop]) (fun w2 hw2 j u hj => by
     have hlt : i + 1 ≠ c := fun e => by rw [List.drop_eq_nil_of_le (by omega)] at hj; cases hj
     rw [hs2 hlt, addr_add]
     exact row_drop (hw2.get mem0) hj) (flat_one (c := Of.c) (fun _ => rfl) _) (by omega)) (fun _ => ?_)
   refine jz ?_; refine jnt ?_; refine jsr ?_; (iterate 2 refine jz ?_); refine jy (y_len_slice rfl) ?_; refine jz ?_; refine jy (y_sl_lh rfl rfl rfl (by omega) (by omega) (by omega)) ?_; refine jl_as (u := .slice (some ⟨b, (l.length - 1) * 9, none⟩) 1 (c - (l.length - 1))) (by rw [← ht1]; simp only [Int.toNat_natCast]; congr 1 <;> first | (congr 1; omega) | omega) ?_; refine jl_v rfl rfl (w_clear rfl (by omega) rep0 (by decide) (by omega) rfl) (fun _ => ?_); refine jnt ?_; refine jsr ?_; (iterate 2 refine jz ?_); refine jnt ?_; refine jc_ret ?_; refine jq_ret1 rfl rfl ?_; exact fun w' hw => ⟨by rw [show i + (l.length - (i + 1)) = l.length - 1 by omega], (hw.cast (H' := [.row (some ⟨b, 0, none⟩) (l.length - 1) c 32 9 ((l.eraseIdx i).flatMap Of.c)]) (by rw [erase_flat, show i + (l.length - (i + 1)) = l.length - 1 by omega])).updd rfl⟩
   )

end Go.Proofs.YtghomncegjamfaaGreat
