/- The walks of package note. Written by program (walk.py) out of a table of contracts and invariants. -/
import Derived.Test.YtghomncegjamfaaCp
import Derived.Test.YtghomncegjamfaaMnote
namespace Go.Proofs.Ytghomncegjamfaa
open Go.RowKit
set_option maxRecDepth 100000
set_option linter.unusedVariables false
set_option linter.unusedSimpArgs false
attribute [local irreducible] Yields Makes Writes
/-- An element of those that came in, or that were told. -/
theorem ElAt.get {α : Type} {w : World} {ad : Option Addr} {sz : Nat} {l : List α} {c : α → List Value} (h : ElAt w ad sz (l.map c)) {i : Nat} (hi : i < l.length) : ∃ b o, ad = some ⟨b, o, none⟩ ∧ Old w b (o + i * sz) (c l[i]) :=
  h i (c l[i]) (by rw [List.getElem?_map, List.getElem?_eq_getElem hi]; rfl)
theorem all_take {α : Type} {l : List α} {P : α → Prop} {i : Nat} (h : i < l.length) (hp : ∀ z ∈ l.take i, P z) (hx : P l[i]) : ∀ z ∈ l.take (i + 1), P z := by
  rw [List.take_succ_eq_append_getElem h]
  intro z hz
  rcases List.mem_append.1 hz with h1 | h1
  · exact hp z h1
  · rw [List.mem_singleton.1 h1]; exact hx
theorem wle0 {x : WS} {K : Nat} (h : x.1.size + 0 ≤ K) : x.1.size ≤ K := h
theorem wz {x : WS} {K : Nat} (h : x.1.size ≤ K := by refine wle0 ?_; (repeat (first | with_reducible apply wle_nums | with_reducible apply wle_wins | with_reducible apply wle_num | with_reducible apply wle_byte | with_reducible apply wle_blob | with_reducible apply wle_hash)); first | decide | omega | (have hw00 : w0.1.size = 0 := rfl; simp only [List.length_cons, List.length_nil]; omega)) : x.1.size ≤ K := h
theorem wle32 {x : WS} {K : Nat} (h : x.1.size + 32 ≤ K) : x.1.size + 8 * 4 ≤ K := h
theorem flat_get {α : Type} {c : α → List Value} {sz : Nat} (hc : ∀ x, (c x).length = sz) : ∀ (l : List α) (i j : Nat) (h : i < l.length), j < sz → (l.flatMap c)[i * sz + j]? = (c l[i])[j]?
  | [], i, j, h, _ => absurd h (by simp)
  | x :: l, 0, j, h, hj => by
    rw [List.flatMap_cons, List.getElem?_append_left (by rw [hc]; omega)]
    simp
  | x :: l, i + 1, j, h, hj => by
    have h1 := flat_get hc l i j (by simpa using h) hj
    rw [List.flatMap_cons, List.getElem?_append_right (by rw [hc, Nat.succ_mul]; omega), hc, show (i + 1) * sz + j - sz = i * sz + j by rw [Nat.succ_mul]; omega, h1]
    rfl
theorem ElAt.of_row {α : Type} {c : α → List Value} {w : World} {ad : Option Addr} {m cap e sz : Nat} {l : List α} (hc : ∀ x, (c x).length = sz) (hm : m = l.length) (h : HA.ok w (.row ad m cap e sz (l.flatMap c))) : ElAt w ad sz (l.map c) := by
  intro i cs hi
  subst hm
  have hlt : i < l.length := by have := (List.getElem?_eq_some_iff.1 hi).1; simpa using this
  rw [List.getElem?_map, List.getElem?_eq_getElem hlt] at hi
  cases hi
  obtain ⟨b, rfl⟩ := row_some h (by omega)
  refine ⟨b, 0, rfl, fun j u hj => ?_⟩
  have hjl : j < sz := by have := (List.getElem?_eq_some_iff.1 hj).1; rwa [hc] at this
  rw [Nat.zero_add]
  exact row_cell h (by rw [flat_get hc l i j hlt hjl]; exact hj)
theorem wn_no1 {x : Wn} (h : tkMay x.t = false) : wnMay x = false := by simp [wnMay, h]
theorem wn_no2 {x : Wn} (h : 32 < x.salt.size) : wnMay x = false := by simp [wnMay, h]
theorem right_no {p : Pf} {x : Wn} {i : Nat} (hi : i < p.wins.length) (hx : p.wins[i] = x) (h : wnMay x = false) : false = pfRight p := by
  rw [eq_comm, Bool.eq_false_iff]
  intro hr
  have h1 := (pfRight_iff.1 hr).1 x (hx ▸ List.getElem_mem hi)
  rw [h] at h1
  exact absurd h1 (by decide)

theorem eq_tk (m : Nat) (x y : Tk) (w : World) : (Op.equalIn (m + 2) 37 (.agg (Tk.c x).toArray) (.agg (Tk.c y).toArray)).run Try.prog w = .ok (decide (x = y)) w := by
  rw [run_equalIn_agg _ _ 37 _ _ (by kernel_rfl) (by kernel_rfl), show (Program.fieldsOf Try.prog 37).toList = [((fsOf (Try.prog.underlying 37)).getD 0 default), ((fsOf (Try.prog.underlying 37)).getD 1 default), ((fsOf (Try.prog.underlying 37)).getD 2 default), ((fsOf (Try.prog.underlying 37)).getD 3 default), ((fsOf (Try.prog.underlying 37)).getD 4 default), ((fsOf (Try.prog.underlying 37)).getD 5 default), ((fsOf (Try.prog.underlying 37)).getD 6 default), ((fsOf (Try.prog.underlying 37)).getD 7 default)] from by kernel_rfl]
  refine Eq.trans (eqF_cell (by kernel_rfl) (T := 9) (by kernel_rfl) (off := 0) (by kernel_rfl) rfl rfl (equalIn_str (m) _ _ w) (eqF_cell (by kernel_rfl) (T := 22) (by kernel_rfl) (off := 1) (by kernel_rfl) rfl rfl (equalIn_int (m) _ _ w) (eqF_cell (by kernel_rfl) (T := 22) (by kernel_rfl) (off := 2) (by kernel_rfl) rfl rfl (equalIn_int (m) _ _ w) (eqF_cell (by kernel_rfl) (T := 22) (by kernel_rfl) (off := 3) (by kernel_rfl) rfl rfl (equalIn_int (m) _ _ w) (eqF_cell (by kernel_rfl) (T := 22) (by kernel_rfl) (off := 4) (by kernel_rfl) rfl rfl (equalIn_int (m) _ _ w) (eqF_cell (by kernel_rfl) (T := 9) (by kernel_rfl) (off := 5) (by kernel_rfl) rfl rfl (equalIn_str (m) _ _ w) (eqF_cell (by kernel_rfl) (T := 22) (by kernel_rfl) (off := 6) (by kernel_rfl) rfl rfl (equalIn_int (m) _ _ w) (eqF_cell (by kernel_rfl) (T := 9) (by kernel_rfl) (off := 7) (by kernel_rfl) rfl rfl (equalIn_str (m) _ _ w) eqF_nil)))))))) ?_
  congr 1
  rw [Bool.eq_iff_iff]
  cases x; cases y
  simp
theorem eq_wn (m : Nat) (x y : Wn) (w : World) : (Op.equalIn (m + 3) 43 (.agg (Wn.c x).toArray) (.agg (Wn.c y).toArray)).run Try.prog w = .ok (decide (x = y)) w := by
  rw [run_equalIn_agg _ _ 43 _ _ (by kernel_rfl) (by kernel_rfl), show (Program.fieldsOf Try.prog 43).toList = [((fsOf (Try.prog.underlying 43)).getD 0 default), ((fsOf (Try.prog.underlying 43)).getD 1 default), ((fsOf (Try.prog.underlying 43)).getD 2 default)] from by kernel_rfl]
  refine Eq.trans (eqF_agg (by kernel_rfl) (T := 37) (by kernel_rfl) (off := 0) (by kernel_rfl) (by repeat constructor) (by repeat constructor) (eq_tk m x.t y.t w) (eqF_cell (by kernel_rfl) (T := 9) (by kernel_rfl) (off := 8) (by kernel_rfl) rfl rfl (equalIn_str (m + 1) _ _ w) (eqF_cell (by kernel_rfl) (T := 22) (by kernel_rfl) (off := 9) (by kernel_rfl) rfl rfl (equalIn_int (m + 1) _ _ w) eqF_nil))) ?_
  congr 1
  rw [Bool.eq_iff_iff]
  cases x; cases y
  simp
theorem may_any (t : Tk) (w : World) :
  Calls Try.prog 68 #[.agg (Tk.c t).toArray] w fun e w' => e = .returned (.bool (tkMay t)) ∧ Ch [] w w' := by
 refine calls_of (n := 19) (E := [(0, .agg (Tk.c t).toArray)]) (W := Hp w [] []) Try.func68 rfl rfl (Nat.le_of_ble_eq_true rfl) rfl (Hp.nil _ _) ?_
 refine jsr ?_
 refine jl_m rfl (by decide) rfl (m_box rfl rfl) (fun b1 => ?_)
 refine jz ?_
 refine jnt ?_
 refine jsr ?_
 refine jz ?_
 refine jz ?_
 refine jy (y_len_str rfl) ?_
 refine jy (y_eql rfl rfl) ?_
 refine jl_prop (fun h6 => ?_) (fun h6 => ?_)
 ·first
  | (exfalso; omega)
  | (
   refine jz ?_
   refine jz ?_
   refine jz ?_
   refine jy (y_len_str rfl) ?_
   refine jy (y_eql rfl rfl) ?_
   refine jl_prop (fun h11 => ?_) (fun h11 => ?_)
   ·first
    | (exfalso; omega)
    | (
     refine jy (y_pick_true rfl rfl) ?_
     refine jz ?_
     refine jz ?_
     refine jz ?_
     refine jy (y_len_str rfl) ?_
     refine jy (y_leq rfl rfl) ?_
     refine jy (y_pick_true rfl rfl) ?_
     refine jz ?_
     refine jnt ?_
     refine jc_ret ?_
     refine jq_ret1 rfl rfl ?_
     exact fun _ hw => ⟨congrArg (fun b => Ending.returned (Value.bool b)) (by unfold tkMay; rw [Bool.eq_iff_iff]; simp only [Bool.and_eq_true, decide_eq_true_eq, Bool.false_eq_true, false_iff, true_iff]; omega), hw.ch⟩
     )
   ·first
    | (exfalso; omega)
    | (
     refine jy (y_pick_true rfl rfl) ?_
     refine jz ?_
     refine jsk ?_
     refine jsk ?_
     refine jsk ?_
     refine jsk ?_
     refine jy (y_pick_false rfl rfl) ?_
     refine jz ?_
     refine jnt ?_
     refine jc_ret ?_
     refine jq_ret1 rfl rfl ?_
     exact fun _ hw => ⟨congrArg (fun b => Ending.returned (Value.bool b)) (by unfold tkMay; rw [Bool.eq_iff_iff]; simp only [Bool.and_eq_true, decide_eq_true_eq, Bool.false_eq_true, false_iff, true_iff]; omega), hw.ch⟩
     )
   )
 ·first
  | (exfalso; omega)
  | (
   refine jz ?_
   refine jsk ?_
   refine jsk ?_
   refine jsk ?_
   refine jsk ?_
   refine jy (y_pick_false rfl rfl) ?_
   refine jz ?_
   refine jsk ?_
   refine jsk ?_
   refine jsk ?_
   refine jsk ?_
   refine jy (y_pick_false rfl rfl) ?_
   refine jz ?_
   refine jnt ?_
   refine jc_ret ?_
   refine jq_ret1 rfl rfl ?_
   exact fun _ hw => ⟨congrArg (fun b => Ending.returned (Value.bool b)) (by unfold tkMay; rw [Bool.eq_iff_iff]; simp only [Bool.and_eq_true, decide_eq_true_eq, Bool.false_eq_true, false_iff, true_iff]; omega), hw.ch⟩
   )

theorem nums_any (b a c : Nat) (x : WS) (l : List Int) (w : World) (hf : ∀ n ∈ l, fits .u64 n) (hx : x.1.size + 8 * l.length ≤ 1000000000) (hL : Old w a 0 (l.map (Value.int .u64))) (hab : a ≠ b) (hA : HA.ok w (.cells b [.string (x).1, .int .i64 (x).2])) :
  Calls Try.prog 41 #[.pointer (some ⟨b, 0, none⟩), .slice (some ⟨a, 0, none⟩) l.length c] w fun e w' => e = .returned (.tuple #[]) ∧ Upd w w' (.cells b [.string (x).1, .int .i64 (x).2]) (.cells b [.string (wNums x l).1, .int .i64 (wNums x l).2]) := by
 refine calls_of (n := 16) (E := [(0, .pointer (some ⟨b, 0, none⟩)), (1, .slice (some ⟨a, 0, none⟩) l.length c)]) (W := Hp w [b] [.cells b [.string (x).1, .int .i64 (x).2]]) Try.func41 rfl rfl (Nat.le_of_ble_eq_true rfl) rfl (Hp.start rfl hA) ?_
 refine jsr ?_
 refine jz ?_
 refine jy (y_len_slice rfl) ?_
 refine jz ?_
 refine jnt ?_
 refine jc_block ?_
 refine jc_loop (fun (i : Nat) => [(0, .pointer (some ⟨b, 0, none⟩)), (6, .slice (some ⟨a, 0, none⟩) l.length c), (7, .int .i64 l.length), (8, .int .i64 (i : Nat))]) (fun (i : Nat) => fun w' => i ≤ l.length ∧ Hp w [b] [.cells b [.string (wNums x (l.take i)).1, .int .i64 (wNums x (l.take i)).2]] w') (fun (i : Nat) => l.length - i) 0 ?_ ?_ ?_
 ·exact ⟨rfl, rfl, rfl, rfl, trivial⟩
 ·exact fun _ h => ⟨by omega, h⟩
 ·intro i
  refine jc_and (fun hi => ?_)
  refine jsr ?_
  refine jy (y_lss rfl rfl) ?_
  refine jl_prop (fun h9 => ?_) (fun h9 => ?_)
  ·first
   | (exfalso; omega)
   | (
    have hlt : i < l.length := by omega
    have hld := hL.at i hlt
    have hfn : fits .u64 (l.getD i 0) := hf _ (by rw [List.getD_eq_getElem?_getD, List.getElem?_eq_getElem hlt]; exact List.getElem_mem hlt)
    have hsz := wle_nums (l := l.take i) (x := x) (a := 0) (K := 1000000000) (by rw [List.length_take]; omega)
    refine jnt ?_
    refine jc_seq ?_
    refine jc_true rfl ?_
    refine jc_skip ?_
    refine jq_then ?_
    refine jc_seq ?_
    refine jc_block ?_
    refine jsr ?_
    refine jy (y_indexAddr_slice (off := 0 + i) rfl rfl (by omega) (by omega) (by omega)) ?_
    refine jy (y_load_old rfl hld (by simpa using hab)) ?_
    refine jz ?_
    refine jnt ?_
    refine jc_region ?_
    refine jz ?_
    refine jz ?_
    refine juc (goes_func rfl) (fun w1 hw1 => wnum_any b (wNums x (l.take i)) (l.getD i 0) hfn w1 hsz hw1) ?_
    refine jl_nil ?_
    refine jq_block ?_
    refine jq_then ?_
    refine jc_region ?_
    refine jy (y_add_fits rfl rfl (by simp only [fits]; omega)) ?_
    refine jz ?_
    refine jl_nil ?_
    refine jq_round (i := i) (i + 1) ?_ ?_ ?_
    ·omega
    ·exact ⟨rfl, rfl, rfl, lk_int rfl (by omega), trivial⟩
    ·exact fun _ h => ⟨by omega, h.cast (by rw [wNums_take hlt])⟩
    )
  ·first
   | (exfalso; omega)
   | (
    refine jnt ?_
    refine jc_seq ?_
    refine jc_false rfl ?_
    refine jc_exit ?_
    refine jq_then_exit ?_
    refine jq_then_exit ?_
    refine jq_hit ?_
    refine jq_end0 rfl ?_
    exact fun w' hw => ⟨rfl, by rw [List.take_of_length_le (by omega)] at hw; exact hw.updd rfl⟩
    )

theorem text_any (t : Tk) (w : World) (hf : t.Fit) (hc : t.chan.size ≤ 1000000000) (hm : t.commit.size ≤ 1000000000) :
  Calls Try.prog 14 #[.agg (Tk.c t).toArray] w fun e w' => e = .returned (.string (tkText t)) ∧ Ch [] w w' := by
 refine calls_of (n := 25) (E := [(0, .agg (Tk.c t).toArray)]) (W := Hp w [] []) Try.func14 rfl rfl (Nat.le_of_ble_eq_true rfl) rfl (Hp.nil _ _) ?_
 refine jsr ?_
 refine jl_m rfl (by decide) rfl (m_box rfl rfl) (fun b1 => ?_)
 refine jz ?_
 refine jnt ?_
 refine jsr ?_
 refine jl_m rfl (by decide) rfl (m_alloc) (fun b3 => ?_)
 refine jnt ?_
 refine jsr ?_
 refine juc (goes_func rfl) (fun w1 hw1 => wbyte_any b3 (w0) (84) (by simp only [fits]; decide) w1 (wz) hw1) ?_
 refine jnt ?_
 refine jsr ?_
 refine jz ?_
 refine jz ?_
 refine juc (goes_func rfl) (fun w1 hw1 => wblob_any b3 (wByte (w0) (84)) (t.chan) (by omega) w1 (wz) hw1) ?_
 refine jnt ?_
 refine jsr ?_
 refine jz ?_
 refine jz ?_
 refine jz ?_
 refine jz ?_
 refine jz ?_
 refine jz ?_
 refine jz ?_
 refine jz ?_
 refine jl_m rfl (by decide) rfl (m_buildSlice (by decide) (Built.cell rfl rfl rfl (by repeat constructor) (Built.cell rfl rfl rfl (by repeat constructor) (Built.cell rfl rfl rfl (by repeat constructor) (Built.cell rfl rfl rfl (by repeat constructor) Built.nil))))) (fun b16 => ?_)
 refine jl_ucallH rfl (by decide) rfl (goes_func rfl) (by rfl) (fun w1 hw1 => nums_any b3 b16 4 (wBlob (wByte (w0) (84)) (t.chan)) [t.serial, t.face, t.wins, t.many] w1 (by intro n hn; simp only [List.mem_cons, List.not_mem_nil, or_false] at hn; rcases hn with rfl | rfl | rfl | rfl <;> first | exact hf.serial | exact hf.face | exact hf.wins | exact hf.many) (by refine wle32 ?_; (repeat (first | with_reducible apply wle_nums | with_reducible apply wle_num | with_reducible apply wle_byte | with_reducible apply wle_blob | with_reducible apply wle_hash)); first | decide | omega) (Old.of_row (hw1.get mem0)) (fun e => (List.pairwise_cons.1 hw1.apart).1 _ mem0 _ rfl (by rw [e]; rfl)) (hw1.get mem1)) (by first | exact rep0 | exact rep1 | exact rep2 | exact rep3 | exact rep4) ?_
 refine jnt ?_
 refine jsr ?_
 refine jz ?_
 refine jz ?_
 refine juc (goes_func rfl) (fun w1 hw1 => wblob_any b3 (wNums (wBlob (wByte (w0) (84)) (t.chan)) [t.serial, t.face, t.wins, t.many]) (t.commit) (by omega) w1 (wz) hw1) ?_
 refine jnt ?_
 refine jsr ?_
 refine jz ?_
 refine jz ?_
 refine juc (goes_func rfl) (fun w1 hw1 => wnum_any b3 (wBlob (wNums (wBlob (wByte (w0) (84)) (t.chan)) [t.serial, t.face, t.wins, t.many]) (t.commit)) (t.client) hf.client w1 (wz) hw1) ?_
 refine jnt ?_
 refine jsr ?_
 refine jpc (goes_func rfl) (fun w1 hw1 => wtext_any b3 (wNum (wBlob (wNums (wBlob (wByte (w0) (84)) (t.chan)) [t.serial, t.face, t.wins, t.many]) (t.commit)) (t.client)) w1 (CellAt.of_cells (hw1.get (A := .cells b3 [.string (wNum (wBlob (wNums (wBlob (wByte (w0) (84)) (t.chan)) [t.serial, t.face, t.wins, t.many]) (t.commit)) (t.client)).1, .int .i64 (wNum (wBlob (wNums (wBlob (wByte (w0) (84)) (t.chan)) [t.serial, t.face, t.wins, t.many]) (t.commit)) (t.client)).2]) mem1) rfl) (CellAt.of_cells (hw1.get (A := .cells b3 [.string (wNum (wBlob (wNums (wBlob (wByte (w0) (84)) (t.chan)) [t.serial, t.face, t.wins, t.many]) (t.commit)) (t.client)).1, .int .i64 (wNum (wBlob (wNums (wBlob (wByte (w0) (84)) (t.chan)) [t.serial, t.face, t.wins, t.many]) (t.commit)) (t.client)).2]) mem1) rfl)) ?_
 refine jz ?_
 refine jnt ?_
 refine jc_ret ?_
 refine jq_ret1 rfl rfl ?_
 exact fun _ hw => ⟨rfl, hw.ch⟩

end Go.Proofs.Ytghomncegjamfaa