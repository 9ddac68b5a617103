/- The walks of package lottery: what is read of a book. Written by program (walk.py) out of a table of contracts and invariants. -/
import Derived.Test.YtghomncegjamfaaNw
import Derived.Test.YtghomncegjamfaaJw
import Derived.Test.YtghomncegjamfaaMlop
namespace Go.Proofs.Ytghomncegjamfaa
open Go.RowKit
set_option maxRecDepth 100000
set_option maxHeartbeats 2000000
set_option linter.unusedVariables false
set_option linter.unusedSimpArgs false
attribute [local irreducible] Yields Makes Writes
theorem el_none {α : Type} {w : World} {n : Nat} {c : α → List Value} {l : List α} (h : ElAt w none n (l.map c)) : l = [] := by
  cases l with
  | nil => rfl
  | cons x l => obtain ⟨b, o, e, _⟩ := h.get (i := 0) (by simp); cases e
theorem flat_len {α : Type} {c : α → List Value} {n : Nat} (hc : ∀ x, (c x).length = n) : ∀ l : List α, (l.flatMap c).length = l.length * n
  | [] => by simp
  | x :: l => by rw [List.flatMap_cons, List.length_append, hc, flat_len hc l, List.length_cons, Nat.succ_mul]; omega
theorem flat_one {α : Type} {c : α → List Value} (hc : ∀ x, (c x).all Value.oneCell' = true) (l : List α) : (l.flatMap c).all Value.oneCell' = true := by
  rw [List.all_eq_true]
  intro v hv
  obtain ⟨x, _, hx⟩ := List.mem_flatMap.1 hv
  exact List.all_eq_true.1 (hc x) v hx
theorem el_flat {α : Type} {w : World} {src : Addr} {n : Nat} {c : α → List Value} {l : List α} (hn : 0 < n) (hc : ∀ x, (c x).length = n) (h : ElAt w (some src) n (l.map c)) : ∀ j u, (l.flatMap c)[j]? = some u → w.cell? (src.add j) = some u := fun j u hj => by
  have hjl := (List.getElem?_eq_some_iff.1 hj).1
  rw [flat_len hc] at hjl
  have hi : j / n < l.length := Nat.div_lt_of_lt_mul (by rw [Nat.mul_comm]; exact hjl)
  obtain ⟨b, o, e, ho⟩ := h.get hi
  cases e
  have hd := Nat.div_add_mod j n
  have hm := Nat.mod_lt j hn
  have h1 := flat_get hc l (j / n) (j % n) hi hm
  rw [show j / n * n + j % n = j by rw [Nat.mul_comm]; exact hd, hj] at h1
  have h2 := ho (j % n) u h1.symm
  rw [addr_add]
  rwa [show o + j / n * n + j % n = o + j by rw [Nat.add_assoc, Nat.mul_comm, hd]] at h2
def cutS (s : ByteArray) (n : Nat) : ByteArray := s.extract 0 (min s.size n)
theorem cutS_size (s : ByteArray) (n : Nat) : (cutS s n).size ≤ n := by simp [cutS]; omega
theorem cut_eq (s : ByteArray) (n : Nat) : s.extract 0 (min (s.size : Int) (n : Int)).toNat = cutS s n := by
  unfold cutS; congr 1; omega
def ctOf (o : Of) : Of := ⟨cutS o.chan 40, o.serial, o.face, o.wins, o.many, cutS o.commit 40, cutS o.salt 40, o.drawn, o.taken⟩
theorem openL_range (l : List Of) (h : ∀ o ∈ l, fits .u64 o.face) : fits .u64 (openL l) := by
  refine snoc_ind (P := fun l => (∀ o ∈ l, fits .u64 o.face) → fits .u64 (openL l)) (fun _ => ⟨by decide, by decide⟩) (fun l o ih h2 => ?_) l h
  rw [openL_snoc]
  have h3 := ih fun x hx => h2 x (List.mem_append_left _ hx)
  split
  · exact h3
  · simp only [fits]; omega

theorem lchan_any (w : World) :
  Calls Try.prog 9 #[] w fun e w' => e = .returned (.string strCh) ∧ Ch [] w w' := by
 refine calls_of (n := 1) (E := []) (W := Hp w [] []) Try.func9 rfl rfl (Nat.le_of_ble_eq_true rfl) rfl (Hp.nil _ _) ?_
 refine jsr ?_
 refine jz ?_
 refine jnt ?_
 refine jsr ?_
 refine jz ?_
 refine jnt ?_
 refine jc_ret ?_
 refine jq_ret1 rfl rfl ?_
 exact fun _ hw => ⟨rfl, hw.ch⟩

theorem lshown_any (o : Of) (w : World) :
  Calls Try.prog 26 #[.agg (Of.c o).toArray] w fun e w' => e = .returned (.agg (Of.c (shownO o)).toArray) ∧ Ch [] w w' := by
 refine calls_of (n := 7) (E := [(0, .agg (Of.c o).toArray)]) (W := Hp w [] []) Try.func26 rfl rfl (Nat.le_of_ble_eq_true rfl) rfl (Hp.nil _ _) ?_
 refine jsr ?_
 refine jl_m rfl (by decide) rfl (m_box rfl rfl) (fun b1 => ?_)
 refine jl_m rfl (by decide) rfl (m_alloc) (fun b2 => ?_)
 refine jnt ?_
 refine jsr ?_
 refine jz ?_
 refine jst ?_
 refine jz ?_
 refine jst ?_
 refine jz ?_
 refine jst ?_
 refine jnt ?_
 refine jsr ?_
 refine jz ?_
 refine jst ?_
 refine jnt ?_
 refine jc_ret ?_
 refine jq_res (.inl rfl) rfl (.cell rfl (by first | exact ld_agg (by first | exact mem0 | exact mem1 | exact mem2 | exact mem3 | exact mem4 | exact mem5) (by repeat constructor) | exact ld_agg (by first | exact mem0 | exact mem1 | exact mem2 | exact mem3 | exact mem4 | exact mem5) (by assumption)) .nil) ?_
 exact fun _ hw => ⟨rfl, hw.ch⟩

theorem lticket_any (o : Of) (n : Int) (w : World) :
  Calls Try.prog 12 #[.agg (Of.c o).toArray, .int .u64 n] w fun e w' => e = .returned (.agg (Tk.c (tkOf o n)).toArray) ∧ Ch [] w w' := by
 refine calls_of (n := 19) (E := [(0, .agg (Of.c o).toArray), (1, .int .u64 n)]) (W := Hp w [] []) Try.func12 rfl rfl (Nat.le_of_ble_eq_true rfl) rfl (Hp.nil _ _) ?_
 refine jsr ?_
 refine jl_m rfl (by decide) rfl (m_box rfl rfl) (fun b2 => ?_)
 refine jl_m rfl (by decide) rfl (m_alloc) (fun b4 => ?_)
 refine jnt ?_
 refine jsr ?_
 refine jz ?_
 refine jz ?_
 refine jz ?_
 refine jz ?_
 refine jz ?_
 refine jz ?_
 refine jz ?_
 refine jz ?_
 refine jz ?_
 refine jz ?_
 refine jz ?_
 refine jz ?_
 refine jz ?_
 refine jy (y_build (Built.cell rfl rfl rfl (by repeat constructor) (Built.cell rfl rfl rfl (by repeat constructor) (Built.cell rfl rfl rfl (by repeat constructor) (Built.cell rfl rfl rfl (by repeat constructor) (Built.cell rfl rfl rfl (by repeat constructor) (Built.cell rfl rfl rfl (by repeat constructor) (Built.cell rfl rfl rfl (by repeat constructor) Built.nil)))))))) ?_
 refine jst ?_
 refine jnt ?_
 refine jc_ret ?_
 refine jq_res (.inl rfl) rfl (.cell rfl (by first | exact ld_agg (by first | exact mem0 | exact mem1 | exact mem2 | exact mem3 | exact mem4 | exact mem5) (by repeat constructor) | exact ld_agg (by first | exact mem0 | exact mem1 | exact mem2 | exact mem3 | exact mem4 | exact mem5) (by assumption)) .nil) ?_
 exact fun _ hw => ⟨rfl, hw.ch⟩

theorem lcut_any (o : Of) (w : World) :
  Calls Try.prog 25 #[.agg (Of.c o).toArray] w fun e w' => e = .returned (.agg (Of.c (ctOf o)).toArray) ∧ Ch [] w w' := by
 refine calls_of (n := 28) (E := [(0, .agg (Of.c o).toArray)]) (W := Hp w [] []) Try.func25 rfl rfl (Nat.le_of_ble_eq_true rfl) rfl (Hp.nil _ _) ?_
 refine jsr ?_
 refine jl_m rfl (by decide) rfl (m_box rfl rfl) (fun b1 => ?_)
 refine jl_m rfl (by decide) rfl (m_alloc) (fun b2 => ?_)
 refine jnt ?_
 refine jsr ?_
 refine jz ?_
 refine jz ?_
 refine jz ?_
 refine jz ?_
 refine jy (y_len_str rfl) ?_
 refine jy (y_min rfl rfl) ?_
 refine jy (y_substr_hi rfl rfl (by omega) (by omega)) ?_
 refine jl_as (congrArg Value.string (cut_eq _ 40)) ?_
 refine jz ?_
 refine jst ?_
 refine jnt ?_
 refine jsr ?_
 refine jz ?_
 refine jz ?_
 refine jz ?_
 refine jz ?_
 refine jy (y_len_str rfl) ?_
 refine jy (y_min rfl rfl) ?_
 refine jy (y_substr_hi rfl rfl (by omega) (by omega)) ?_
 refine jl_as (congrArg Value.string (cut_eq _ 40)) ?_
 refine jz ?_
 refine jst ?_
 refine jnt ?_
 refine jsr ?_
 refine jz ?_
 refine jz ?_
 refine jz ?_
 refine jz ?_
 refine jy (y_len_str rfl) ?_
 refine jy (y_min rfl rfl) ?_
 refine jy (y_substr_hi rfl rfl (by omega) (by omega)) ?_
 refine jl_as (congrArg Value.string (cut_eq _ 40)) ?_
 refine jz ?_
 refine jst ?_
 refine jnt ?_
 refine jsr ?_
 refine jz ?_
 refine jst ?_
 refine jnt ?_
 refine jc_ret ?_
 refine jq_res (.inl rfl) rfl (.cell rfl (by first | exact ld_agg (by first | exact mem0 | exact mem1 | exact mem2 | exact mem3 | exact mem4 | exact mem5) (by repeat constructor) | exact ld_agg (by first | exact mem0 | exact mem1 | exact mem2 | exact mem3 | exact mem4 | exact mem5) (by assumption)) .nil) ?_
 exact fun _ hw => ⟨rfl, hw.ch⟩

theorem lref_any (o : Of) (w : World) :
  Calls Try.prog 51 #[.agg (Of.c o).toArray] w fun e w' => e = .returned (.agg (Of.c o).toArray) ∧ Ch [] w w' := by
 refine calls_of (n := 22) (E := [(0, .agg (Of.c o).toArray)]) (W := Hp w [] []) Try.func51 rfl rfl (Nat.le_of_ble_eq_true rfl) rfl (Hp.nil _ _) ?_
 refine jsr ?_
 refine jl_m rfl (by decide) rfl (m_box rfl rfl) (fun b1 => ?_)
 refine jl_m rfl (by decide) rfl (m_alloc) (fun b2 => ?_)
 refine jnt ?_
 refine jsr ?_
 refine jz ?_
 refine jz ?_
 refine jz ?_
 refine jz ?_
 refine jz ?_
 refine jz ?_
 refine jz ?_
 refine jz ?_
 refine jz ?_
 refine jz ?_
 refine jz ?_
 refine jz ?_
 refine jz ?_
 refine jz ?_
 refine jz ?_
 refine jz ?_
 refine jz ?_
 refine jz ?_
 refine jy (y_build (Built.cell rfl rfl rfl (by repeat constructor) (Built.cell rfl rfl rfl (by repeat constructor) (Built.cell rfl rfl rfl (by repeat constructor) (Built.cell rfl rfl rfl (by repeat constructor) (Built.cell rfl rfl rfl (by repeat constructor) (Built.cell rfl rfl rfl (by repeat constructor) (Built.cell rfl rfl rfl (by repeat constructor) (Built.cell rfl rfl rfl (by repeat constructor) (Built.cell rfl rfl rfl (by repeat constructor) Built.nil)))))))))) ?_
 refine jst ?_
 refine jnt ?_
 refine jc_ret ?_
 refine jq_res (.inl rfl) rfl (.cell rfl (by first | exact ld_agg (by first | exact mem0 | exact mem1 | exact mem2 | exact mem3 | exact mem4 | exact mem5) (by repeat constructor) | exact ld_agg (by first | exact mem0 | exact mem1 | exact mem2 | exact mem3 | exact mem4 | exact mem5) (by assumption)) .nil) ?_
 exact fun _ hw => ⟨rfl, hw.ch⟩

theorem lnew_ok (ch cl : ByteArray) (w : World) (h1 : ch.size = 16) (h2 : cl.size = 16) :
  Calls Try.prog 8 #[.string ch, .string cl] w fun e w' => ∃ b, e = .returned (.tuple #[.pointer (some ⟨b, 0, none⟩), .int .i64 0]) ∧ Fresh w w' (.cells b [.string ch, .string cl, .int .u64 1, .slice none 0 0]) := by
 refine calls_of (n := 18) (E := [(0, .string ch), (1, .string cl)]) (W := Hp w [] []) Try.func8 rfl rfl (Nat.le_of_ble_eq_true rfl) rfl (Hp.nil _ _) ?_
 refine jsr ?_
 refine jz ?_
 refine jz ?_
 refine jnt ?_
 refine jc_seq ?_
 refine jsr ?_
 refine jz ?_
 refine jy (y_len_str rfl) ?_
 refine jy (y_neq rfl rfl) ?_
 refine jl_prop (fun h8 => ?_) (fun h8 => ?_)
 ·first
  | (exfalso; omega)
  | (
   refine jz ?_
   refine jsk ?_
   refine jsk ?_
   refine jsk ?_
   refine jy (y_pick_true rfl rfl) ?_
   refine jnt ?_
   refine jc_true rfl ?_
   refine jsr ?_
   refine jz ?_
   refine jz ?_
   refine jnt ?_
   refine jc_ret ?_
   refine jq_then_ret ?_
   refine jq_ret2 rfl rfl rfl ?_
   exact fun w' hw => ⟨b17, rfl, hw.fresh⟩
   )
 ·first
  | (exfalso; omega)
  | (
   refine jz ?_
   refine jz ?_
   refine jy (y_len_str rfl) ?_
   refine jy (y_neq rfl rfl) ?_
   refine jl_prop (fun h12 => ?_) (fun h12 => ?_)
   ·first
    | (exfalso; omega)
    | (
     refine jy (y_pick_false rfl rfl) ?_
     refine jnt ?_
     refine jc_true rfl ?_
     refine jsr ?_
     refine jz ?_
     refine jz ?_
     refine jnt ?_
     refine jc_ret ?_
     refine jq_then_ret ?_
     refine jq_ret2 rfl rfl rfl ?_
     exact fun w' hw => ⟨b17, rfl, hw.fresh⟩
     )
   ·first
    | (exfalso; omega)
    | (
     refine jy (y_pick_false rfl rfl) ?_
     refine jnt ?_
     refine jc_false rfl ?_
     refine jc_skip ?_
     refine jq_then ?_
     refine jsr ?_
     refine jz ?_
     refine jz ?_
     refine jy (y_build (Built.cell rfl rfl rfl (by repeat constructor) (Built.cell rfl rfl rfl (by repeat constructor) (Built.cell rfl rfl rfl (by repeat constructor) Built.nil)))) ?_
     refine jl_m rfl (by decide) rfl (m_box rfl rfl) (fun b17 => ?_)
     refine jz ?_
     refine jz ?_
     refine jnt ?_
     refine jc_ret ?_
     refine jq_ret2 rfl rfl rfl ?_
     exact fun w' hw => ⟨b17, rfl, hw.fresh⟩
     )
   )

theorem lnew_bad (ch cl : ByteArray) (w : World) (h1 : ¬ (ch.size = 16 ∧ cl.size = 16)) :
  Calls Try.prog 8 #[.string ch, .string cl] w fun e w' => e = .returned (.tuple #[.pointer none, .int .i64 1]) ∧ Ch [] w w' := by
 refine calls_of (n := 18) (E := [(0, .string ch), (1, .string cl)]) (W := Hp w [] []) Try.func8 rfl rfl (Nat.le_of_ble_eq_true rfl) rfl (Hp.nil _ _) ?_
 refine jsr ?_
 refine jz ?_
 refine jz ?_
 refine jnt ?_
 refine jc_seq ?_
 refine jsr ?_
 refine jz ?_
 refine jy (y_len_str rfl) ?_
 refine jy (y_neq rfl rfl) ?_
 refine jl_prop (fun h8 => ?_) (fun h8 => ?_)
 ·first
  | (exfalso; omega)
  | (
   refine jz ?_
   refine jsk ?_
   refine jsk ?_
   refine jsk ?_
   refine jy (y_pick_true rfl rfl) ?_
   refine jnt ?_
   refine jc_true rfl ?_
   refine jsr ?_
   refine jz ?_
   refine jz ?_
   refine jnt ?_
   refine jc_ret ?_
   refine jq_then_ret ?_
   refine jq_ret2 rfl rfl rfl ?_
   exact fun _ hw => ⟨rfl, hw.ch⟩
   )
 ·first
  | (exfalso; omega)
  | (
   refine jz ?_
   refine jz ?_
   refine jy (y_len_str rfl) ?_
   refine jy (y_neq rfl rfl) ?_
   refine jl_prop (fun h12 => ?_) (fun h12 => ?_)
   ·first
    | (exfalso; omega)
    | (
     refine jy (y_pick_false rfl rfl) ?_
     refine jnt ?_
     refine jc_true rfl ?_
     refine jsr ?_
     refine jz ?_
     refine jz ?_
     refine jnt ?_
     refine jc_ret ?_
     refine jq_then_ret ?_
     refine jq_ret2 rfl rfl rfl ?_
     exact fun _ hw => ⟨rfl, hw.ch⟩
     )
   ·first
    | (exfalso; omega)
    | (
     refine jy (y_pick_false rfl rfl) ?_
     refine jnt ?_
     refine jc_false rfl ?_
     refine jc_skip ?_
     refine jq_then ?_
     refine jsr ?_
     refine jz ?_
     refine jz ?_
     refine jy (y_build (Built.cell rfl rfl rfl (by repeat constructor) (Built.cell rfl rfl rfl (by repeat constructor) (Built.cell rfl rfl rfl (by repeat constructor) Built.nil)))) ?_
     refine jl_m rfl (by decide) rfl (m_box rfl rfl) (fun b17 => ?_)
     refine jz ?_
     refine jz ?_
     refine jnt ?_
     refine jc_ret ?_
     refine jq_ret2 rfl rfl rfl ?_
     exact fun _ hw => ⟨rfl, hw.ch⟩
     )
   )

theorem lnext_any (b : Nat) (n : Int) (w : World) (h : CellAt w b 2 (.int .u64 n)) :
  Calls Try.prog 17 #[.pointer (some ⟨b, 0, none⟩)] w fun e w' => e = .returned (.int .u64 n) ∧ Ch [] w w' := by
 refine calls_of (n := 7) (E := [(0, .pointer (some ⟨b, 0, none⟩))]) (W := Hp w [] []) Try.func17 rfl rfl (Nat.le_of_ble_eq_true rfl) rfl (Hp.nil _ _) ?_
 refine jsr ?_
 refine jz ?_
 refine jnt ?_
 refine jsr ?_
 refine jz ?_
 refine jz ?_
 refine jz ?_
 refine jy (y_load_old rfl h List.not_mem_nil) ?_
 refine jz ?_
 refine jnt ?_
 refine jc_ret ?_
 refine jq_ret1 rfl rfl ?_
 exact fun _ hw => ⟨rfl, hw.ch⟩

theorem lopen_any (b : Nat) (ad : Option Addr) (l : List Of) (c : Nat) (w : World) (hl : l.length ≤ 1000) (h : CellAt w b 3 (.slice ad l.length c)) (hE : ElAt w ad 9 (l.map Of.c)) :
  Calls Try.prog 21 #[.pointer (some ⟨b, 0, none⟩)] w fun e w' => e = .returned (.int .u64 (openL l)) ∧ Ch [] w w' := by
 refine calls_of (n := 24) (E := [(0, .pointer (some ⟨b, 0, none⟩))]) (W := Hp w [] []) Try.func21 rfl rfl (Nat.le_of_ble_eq_true rfl) rfl (Hp.nil _ _) ?_
 refine jsr ?_
 refine jz ?_
 refine jnt ?_
 refine jsr ?_
 refine jz ?_
 refine jnt ?_
 refine jc_seq ?_
 refine jsr ?_
 refine jz ?_
 refine jz ?_
 refine jz ?_
 refine jy (y_load_old rfl h List.not_mem_nil) ?_
 refine jy (y_len_slice rfl) ?_
 refine jz ?_
 refine jnt ?_
 refine jc_block ?_
 refine jc_loop (fun (i : Nat) => [(3, .int .u64 (openL (l.take i))), (9, .slice ad l.length c), (10, .int .i64 l.length), (11, .int .i64 (i : Nat))]) (fun (i : Nat) => fun w' => i ≤ l.length ∧ Hp w [] [] w') (fun (i : Nat) => l.length - i) 0 ?_ ?_ ?_
 ·exact ⟨rfl, rfl, rfl, rfl, trivial⟩
 ·exact fun _ h => ⟨by omega, h⟩
 ·intro i
  refine jc_and (fun hi => ?_)
  refine jsr ?_
  refine jy (y_lss rfl rfl) ?_
  refine jl_prop (fun h12 => ?_) (fun h12 => ?_)
  ·first
   | (exfalso; omega)
   | (
    have hlt : i < l.length := by omega
    have hnx := openL_take hlt
    obtain ⟨bb, oo, ea, hold⟩ := hE.get hlt
    subst ea
    generalize hxe : l[i]'hlt = o at *
    refine jnt ?_
    refine jc_seq ?_
    refine jc_true rfl ?_
    refine jc_skip ?_
    refine jq_then ?_
    refine jc_seq ?_
    refine jc_block ?_
    refine jsr ?_
    refine jy (y_indexAddr_slice (off := oo + i * 9) rfl rfl (by omega) (by omega) (by omega)) ?_
    refine jy (y_loadAgg_old rfl rfl hold (by simp)) ?_
    refine jl_m rfl (by decide) rfl (m_alloc) (fun b5 => ?_)
    refine jst ?_
    refine jnt ?_
    refine jsr ?_
    refine jz ?_
    refine jz ?_
    refine jl_bool (fun h16 => ?_) (fun h16 => ?_)
    ·skip
     refine jz ?_
     refine jnt ?_
     refine jc_false rfl ?_
     refine jc_skip ?_
     refine jq_block ?_
     refine jq_then ?_
     refine jc_region ?_
     refine jy (y_add_fits rfl rfl (by simp only [fits]; omega)) ?_
     refine jz ?_
     refine jl_nil ?_
     refine jq_round (i := i) (i + 1) ?_ ?_ ?_
     ·omega
     ·exact ⟨lk_int rfl (by rw [hnx, if_pos (by assumption)]), rfl, rfl, lk_int rfl (by omega), trivial⟩
     ·exact fun _ h => ⟨by omega, h.part .nil⟩
    ·skip
     refine jz ?_
     refine jnt ?_
     refine jc_true rfl ?_
     refine jc_region ?_
     refine jz ?_
     refine jz ?_
     refine jz ?_
     refine jy (y_add_u64 rfl rfl) ?_
     refine jz ?_
     refine jl_nil ?_
     refine jq_block ?_
     refine jq_then ?_
     refine jc_region ?_
     refine jy (y_add_fits rfl rfl (by simp only [fits]; omega)) ?_
     refine jz ?_
     refine jl_nil ?_
     refine jq_round (i := i) (i + 1) ?_ ?_ ?_
     ·omega
     ·exact ⟨lk_int rfl (by rw [hnx, if_neg (by rw [show o.taken = false by assumption]; decide)]), rfl, rfl, lk_int rfl (by omega), trivial⟩
     ·exact fun _ h => ⟨by omega, h.part .nil⟩
    )
  ·first
   | (exfalso; omega)
   | (
    refine jnt ?_
    refine jc_seq ?_
    refine jc_false rfl ?_
    refine jc_exit ?_
    refine jq_then_exit ?_
    refine jq_then_exit ?_
    refine jq_hit ?_
    refine jq_then ?_
    refine jsr ?_
    refine jz ?_
    refine jz ?_
    refine jnt ?_
    refine jc_ret ?_
    refine jq_ret1 rfl rfl ?_
    exact fun _ hw => ⟨by rw [List.take_of_length_le (by omega)], hw.ch⟩
    )

theorem lfind1_any (o : Of) (p : Nat) (s : Int) (w : World) (h : CellAt w p 0 (.int .u64 s)) :
  Calls Try.prog 66 #[.agg (Of.c o).toArray, .pointer (some ⟨p, 0, none⟩)] w fun e w' => e = .returned (.bool (decide (o.serial = s))) ∧ Ch [] w w' := by
 refine calls_of (n := 8) (E := [(0, .agg (Of.c o).toArray), (1, .pointer (some ⟨p, 0, none⟩))]) (W := Hp w [] []) Try.func66 rfl rfl (Nat.le_of_ble_eq_true rfl) rfl (Hp.nil _ _) ?_
 refine jsr ?_
 refine jl_m rfl (by decide) rfl (m_box rfl rfl) (fun b2 => ?_)
 refine jz ?_
 refine jnt ?_
 refine jsr ?_
 refine jz ?_
 refine jz ?_
 refine jy (y_load_old rfl h List.not_mem_nil) ?_
 refine jy (y_eql rfl rfl) ?_
 refine jz ?_
 refine jnt ?_
 refine jc_ret ?_
 refine jq_ret1 rfl rfl ?_
 exact fun _ hw => ⟨rfl, hw.ch⟩

theorem idxL_any (ad : Option Addr) (l : List Of) (c : Nat) (p : Nat) (s : Int) (w : World) (hl : l.length ≤ 1000) (hE : ElAt w ad 9 (l.map Of.c)) (hp : CellAt w p 0 (.int .u64 s)) :
  Calls Try.prog 65 #[.slice ad l.length c, .func (.func 66) #[] #[.pointer (some ⟨p, 0, none⟩)]] w fun e w' => e = .returned (.int .i64 (findL l s)) ∧ Ch [] w w' := by
 refine calls_of (n := 19) (E := [(0, .slice ad l.length c), (1, .func (.func 66) #[] #[.pointer (some ⟨p, 0, none⟩)])]) (W := Hp w [] []) Try.func65 rfl rfl (Nat.le_of_ble_eq_true rfl) rfl (Hp.nil _ _) ?_
 refine jsr ?_
 refine jz ?_
 refine jnt ?_
 refine jc_seq ?_
 refine jsr ?_
 refine jz ?_
 refine jy (y_len_slice rfl) ?_
 refine jz ?_
 refine jnt ?_
 refine jc_block ?_
 refine jc_loop (fun (i : Nat) => [(0, .slice ad l.length c), (1, .func (.func 66) #[] #[.pointer (some ⟨p, 0, none⟩)]), (7, .int .i64 l.length), (8, .int .i64 (i : Nat))]) (fun (i : Nat) => fun w' => (i ≤ l.length ∧ ∀ j z, j < i → l[j]? = some z → decide (z.serial = s) = false) ∧ Hp w [] [] w') (fun (i : Nat) => l.length - i) 0 ?_ ?_ ?_
 ·exact ⟨rfl, rfl, rfl, rfl, trivial⟩
 ·exact fun _ h => ⟨⟨by omega, fun j z hj _ => absurd hj (by omega)⟩, h⟩
 ·intro i
  refine jc_and (fun hi2 => ?_)
  obtain ⟨hi, hno⟩ := hi2
  refine jsr ?_
  refine jy (y_lss rfl rfl) ?_
  refine jl_prop (fun h9 => ?_) (fun h9 => ?_)
  ·first
   | (exfalso; omega)
   | (
    have hlt : i < l.length := by omega
    obtain ⟨bb, oo, ea, hold⟩ := hE.get hlt
    subst ea
    generalize hxe : l[i]'hlt = o at *
    refine jnt ?_
    refine jc_seq ?_
    refine jc_true rfl ?_
    refine jc_skip ?_
    refine jq_then ?_
    refine jc_seq ?_
    refine jc_block ?_
    refine jsr ?_
    refine jz ?_
    refine jz ?_
    refine jnt ?_
    refine jsr ?_
    refine jz ?_
    refine jz ?_
    refine jz ?_
    refine jy (y_indexAddr_slice (off := oo + i * 9) rfl rfl (by omega) (by omega) (by omega)) ?_
    refine jy (y_loadAgg_old rfl rfl hold (by simp)) ?_
    refine jl_pcall rfl (by decide) rfl (goes_value rfl rfl) (fun w1 hw1 => pcall hw1 (lfind1_any o p s w1 (hp.keep hw1))) ?_
    refine jl_bool (fun h16 => ?_) (fun h16 => ?_)
    ·skip
     refine jnt ?_
     refine jc_true rfl ?_
     refine jsr ?_
     refine jz ?_
     refine jz ?_
     refine jnt ?_
     refine jc_ret ?_
     refine jq_block_ret ?_
     refine jq_then_ret ?_
     refine jq_then_ret ?_
     refine jq_block_ret ?_
     refine jq_then_ret ?_
     refine jq_ret1 rfl rfl ?_
     exact fun _ hw => ⟨by unfold findL; rw [idx_hit hno (by rw [List.getElem?_eq_getElem hlt, hxe]) h16], hw.ch⟩
    ·skip
     refine jnt ?_
     refine jc_false rfl ?_
     refine jc_skip ?_
     refine jq_block ?_
     refine jq_then ?_
     refine jc_region ?_
     refine jy (y_add_fits rfl rfl (by simp only [fits]; omega)) ?_
     refine jz ?_
     refine jl_nil ?_
     refine jq_round (i := i) (i + 1) ?_ ?_ ?_
     ·omega
     ·exact ⟨rfl, rfl, rfl, lk_int rfl (by omega), trivial⟩
     ·exact fun _ h => ⟨⟨by omega, fun j z hj hz => (Nat.lt_succ_iff_lt_or_eq.1 hj).elim (fun h2 => hno j z h2 hz) (fun e => by subst e; rw [List.getElem?_eq_getElem hlt, hxe] at hz; cases hz; exact h16)⟩, h⟩
    )
  ·first
   | (exfalso; omega)
   | (
    refine jnt ?_
    refine jc_seq ?_
    refine jc_false rfl ?_
    refine jc_exit ?_
    refine jq_then_exit ?_
    refine jq_then_exit ?_
    refine jq_hit ?_
    refine jq_then ?_
    refine jsr ?_
    refine jz ?_
    refine jnt ?_
    refine jc_ret ?_
    refine jq_ret1 rfl rfl ?_
    exact fun _ hw => ⟨by unfold findL; rw [idx_none (fun j z hj => hno j z (by omega))], hw.ch⟩
    )

theorem lfind_any (b : Nat) (ad : Option Addr) (l : List Of) (c : Nat) (w : World) (hl : l.length ≤ 1000) (h : CellAt w b 3 (.slice ad l.length c)) (hE : ElAt w ad 9 (l.map Of.c)) (s : Int) :
  Calls Try.prog 44 #[.pointer (some ⟨b, 0, none⟩), .int .u64 s] w fun e w' => e = .returned (.int .i64 (findL l s)) ∧ Ch [] w w' := by
 refine calls_of (n := 11) (E := [(0, .pointer (some ⟨b, 0, none⟩)), (1, .int .u64 s)]) (W := Hp w [] []) Try.func44 rfl rfl (Nat.le_of_ble_eq_true rfl) rfl (Hp.nil _ _) ?_
 refine jsr ?_
 refine jl_m rfl (by decide) rfl (m_box rfl rfl) (fun b3 => ?_)
 refine jz ?_
 refine jnt ?_
 refine jsr ?_
 refine jz ?_
 refine jz ?_
 refine jz ?_
 refine jy (y_load_old rfl h List.not_mem_nil) ?_
 refine jy (y_makeFunc rfl rfl) ?_
 refine jpc (goes_func rfl) (fun w1 hw1 => idxL_any ad l c b3 s w1 hl (hE.keep hw1) (CellAt.of_cells (hw1.get mem0) rfl)) ?_
 refine jz ?_
 refine jnt ?_
 refine jc_ret ?_
 refine jq_ret1 rfl rfl ?_
 exact fun _ hw => ⟨rfl, hw.ch⟩

theorem lroom_any (b : Nat) (ad : Option Addr) (l : List Of) (c : Nat) (w : World) (hl : l.length ≤ 1000) (h : CellAt w b 3 (.slice ad l.length c)) (hE : ElAt w ad 9 (l.map Of.c)) (hf : ∀ o ∈ l, fits .u64 o.face) (f : Int) (hff : fits .u64 f) :
  Calls Try.prog 32 #[.pointer (some ⟨b, 0, none⟩), .int .u64 f] w fun e w' => e = .returned (.int .i64 (roomE l f)) ∧ Ch [] w w' := by
 refine calls_of (n := 21) (E := [(0, .pointer (some ⟨b, 0, none⟩)), (1, .int .u64 f)]) (W := Hp w [] []) Try.func32 rfl rfl (Nat.le_of_ble_eq_true rfl) rfl (Hp.nil _ _) ?_
 refine jsr ?_
 refine jz ?_
 refine jnt ?_
 refine jc_seq ?_
 refine jsr ?_
 refine jz ?_
 refine jz ?_
 refine jz ?_
 refine jy (y_load_old rfl h List.not_mem_nil) ?_
 refine jy (y_len_slice rfl) ?_
 refine jy (y_geq rfl rfl) ?_
 refine jl_prop (fun h12 => ?_) (fun h12 => ?_)
 ·first
  | (exfalso; omega)
  | (
   refine jnt ?_
   refine jc_true rfl ?_
   refine jsr ?_
   refine jz ?_
   refine jnt ?_
   refine jc_ret ?_
   refine jq_then_ret ?_
   refine jq_ret1 rfl rfl ?_
   exact fun _ hw => ⟨by unfold roomE; rw [if_pos (by omega)], hw.ch⟩
   )
 ·first
  | (exfalso; omega)
  | (
   refine jnt ?_
   refine jc_false rfl ?_
   refine jc_skip ?_
   refine jq_then ?_
   refine jsr ?_
   refine jz ?_
   refine jpc (goes_func rfl) (fun w1 hw1 => lopen_any b ad l c w1 hl (h.keep hw1) (hE.keep hw1)) ?_
   refine jz ?_
   refine jpc (goes_func rfl) (fun w1 hw1 => add_any (openL l) f w1 (openL_range l hf) hff) ?_
   refine jz ?_
   refine jz ?_
   refine jz ?_
   refine jz ?_
   refine jz ?_
   refine jnt ?_
   refine jsr ?_
   refine jz ?_
   refine jz ?_
   refine jnt ?_
   refine jc_ret ?_
   refine jq_ret1 rfl rfl ?_
   exact fun _ hw => ⟨by unfold roomE; rw [if_neg (by omega)] <;> rfl, hw.ch⟩
   )

theorem cloneOf_any (ad : Option Addr) (c : Nat) (l : List Of) (w : World) (hl : l.length ≤ 1000000) (hE : ElAt w ad 9 (l.map Of.c)) :
  Calls Try.prog 34 #[.slice ad l.length c] w fun e w' => ∃ pr : Option Addr × Nat, e = .returned (.slice pr.1 l.length pr.2) ∧ Fresh w w' (.row pr.1 l.length pr.2 33 9 (l.flatMap Of.c)) := by
 refine calls_of (n := 8) (E := [(0, .slice ad l.length c)]) (W := Hp w [] []) Try.func34 rfl rfl (Nat.le_of_ble_eq_true rfl) rfl (Hp.nil _ _) ?_
 refine jsr ?_
 refine jz ?_
 refine jnt ?_
 refine jc_seq ?_
 refine jc_seq ?_
 rcases ad with _ | ⟨bq, oq, sq⟩
 ·skip
  refine jc_region ?_
  refine jz ?_
  refine jy (y_eql_snil rfl rfl) ?_
  refine jl_as (u := .bool true) rfl ?_
  refine jnt ?_
  refine jc_true rfl ?_
  refine jc_seq ?_
  have hl0 := el_none hE
  subst hl0
  refine jc_region ?_
  refine jz ?_
  refine jnt ?_
  refine jc_ret ?_
  refine jq_then_ret ?_
  refine jq_ret1 rfl rfl ?_
  exact fun _ hw => ⟨(none, 0), rfl, (Hp.nilrow 33 9 hw).fresh⟩
 ·skip
  refine jc_region ?_
  refine jz ?_
  refine jy (y_eql_snil rfl rfl) ?_
  refine jl_as (u := .bool false) rfl ?_
  refine jnt ?_
  refine jc_false rfl ?_
  refine jc_skip ?_
  refine jq_then ?_
  refine jsr ?_
  refine jl_m rfl (by decide) rfl (m_buildSlice (size := 9) (by decide) Built.nil) (fun b5 => ?_)
  refine jz ?_
  refine jl_m2 rfl (by decide) rfl (m_append_of rfl rfl del0 (flat_len (n := 9) (c := Of.c) (fun _ => rfl) l) (fun w2 hw2 => el_flat (c := Of.c) (by decide) (fun _ => rfl) (hE.keep (hw2.part (F := []) .nil))) (flat_one (c := Of.c) (fun _ => rfl) l) (by omega) (by omega)) (fun a7 c7 => ?_)
  refine jz ?_
  refine jnt ?_
  refine jc_ret ?_
  refine jq_ret1 rfl rfl ?_
  exact fun _ hw => ⟨(a7, c7), by simp only [Nat.zero_add], by simp only [Nat.zero_add, List.nil_append] at hw; exact hw.fresh⟩

theorem loffers_any (b : Nat) (ad : Option Addr) (l : List Of) (c : Nat) (w : World) (hl : l.length ≤ 1000) (h : CellAt w b 3 (.slice ad l.length c)) (hE : ElAt w ad 9 (l.map Of.c)) :
  Calls Try.prog 18 #[.pointer (some ⟨b, 0, none⟩)] w fun e w' => ∃ b', e = .returned (.slice (some ⟨b', 0, none⟩) l.length l.length) ∧ Fresh w w' (.row (some ⟨b', 0, none⟩) l.length l.length 33 9 (l.flatMap Of.c)) := by
 refine calls_of (n := 17) (E := [(0, .pointer (some ⟨b, 0, none⟩))]) (W := Hp w [] []) Try.func18 rfl rfl (Nat.le_of_ble_eq_true rfl) rfl (Hp.nil _ _) ?_
 refine jsr ?_
 refine jz ?_
 refine jnt ?_
 refine jsr ?_
 refine jz ?_
 refine jz ?_
 refine jz ?_
 refine jy (y_load_old rfl h List.not_mem_nil) ?_
 refine jy (y_len_slice rfl) ?_
 refine jl_m rfl (by decide) rfl (m_make rfl rfl (by first | omega | decide) (by first | omega | decide)) (fun b9 => ?_)
 refine jz ?_
 refine jnt ?_
 refine jsr ?_
 refine jz ?_
 refine jz ?_
 refine jz ?_
 refine jz ?_
 refine jy (y_load_old rfl h List.not_mem_nil) ?_
 refine jl_m rfl (by decide) rfl (m_copy rfl rfl rep0 (flat_len (n := 9) (c := Of.c) (fun _ => rfl) l) (fun w2 hw2 => by
   rcases ad with _ | src
   ·exact .inl ⟨rfl, by rw [el_none hE]; rfl⟩
   ·exact .inr ⟨src, rfl, el_flat (c := Of.c) (by decide) (fun _ => rfl) (hE.keep (hw2.part (F := []) .nil))⟩) (flat_one (c := Of.c) (fun _ => rfl) l)) (fun _ => ?_)
 refine jnt ?_
 refine jsr ?_
 refine jz ?_
 refine jz ?_
 refine jnt ?_
 refine jc_ret ?_
 refine jq_ret1 rfl rfl ?_
 exact fun w' hw => ⟨b9, rfl, hw.fresh⟩

end Go.Proofs.Ytghomncegjamfaa