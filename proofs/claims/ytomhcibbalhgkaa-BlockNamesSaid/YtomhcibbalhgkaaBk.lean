/- The walks of package block. Written by program (walk.py) out of a table of contracts and invariants. -/
import Derived.Test.YtomhcibbalhgkaaCi
import Derived.Test.YtomhcibbalhgkaaMrtd
import Derived.Test.YtomhcibbalhgkaaJv
namespace Go.Proofs.Ytomhcibbalhgkaa
open Go.RowKit
set_option maxRecDepth 100000
set_option maxHeartbeats 2000000
set_option linter.unusedVariables false
set_option linter.unusedSimpArgs false
theorem all3 {a b d : ByteArray} {n : Nat} (ha : a.size ≤ n) (hb : b.size ≤ n) (hd : d.size ≤ n) : ∀ p ∈ [a, b, d], p.size ≤ n := by
  intro p hp
  simp only [List.mem_cons, List.not_mem_nil, or_false] at hp
  rcases hp with rfl | rfl | rfl <;> assumption
def oddT (q : Txq) : Bool := !txRight q.t
theorem bkRight_bad {q : Blq} (h : ¬ (1 ≤ q.height ∧ q.height ≤ 4294967295 ∧ q.prev.size = 16 ∧ q.l.length ≤ 8)) : false = bkRight q.b := by
  symm
  rw [Bool.eq_false_iff]
  intro hr
  obtain ⟨h1, h2, h3, h4, _⟩ := bkRight_iff.1 hr
  rw [List.length_map] at h4
  exact h ⟨h1, h2, h3, h4⟩
theorem bkRight_all {q : Blq} (h : 1 ≤ q.height ∧ q.height ≤ 4294967295 ∧ q.prev.size = 16 ∧ q.l.length ≤ 8) : (!q.l.any oddT) = bkRight q.b := by
  rw [Bool.eq_iff_iff, bkRight_iff, Bool.not_eq_true', List.any_eq_false]
  show _ ↔ 1 ≤ q.height ∧ q.height ≤ 4294967295 ∧ q.prev.size = 16 ∧ (txsQ q.l).length ≤ 8 ∧ ∀ t ∈ txsQ q.l, txRight t = true
  rw [List.length_map]
  refine ⟨fun h2 => ⟨h.1, h.2.1, h.2.2.1, h.2.2.2, fun t ht => ?_⟩, fun h2 x hx => ?_⟩
  · obtain ⟨x, hx, rfl⟩ := List.mem_map.1 ht
    have := h2 x hx
    simpa [oddT] using this
  · have := h2.2.2.2.2 x.t (List.mem_map.2 ⟨x, hx, rfl⟩)
    simp [oddT, this]
theorem eqQ_next {l m : List Txq} {i : Nat} (h : i < l.length) (h2 : i < m.length) (e : (txsQ l).take i = (txsQ m).take i) (ex : l[i].t = m[i].t) : (txsQ l).take (i + 1) = (txsQ m).take (i + 1) := by
  rw [List.take_succ_eq_append_getElem (by rw [List.length_map]; exact h), List.take_succ_eq_append_getElem (by rw [List.length_map]; exact h2), e, List.getElem_map, List.getElem_map, ex]
theorem eqQ_not {l m : List Txq} {i : Nat} (h : i < l.length) (h2 : i < m.length) (e : txsQ l = txsQ m) : ¬ l[i].t ≠ m[i].t := fun hn => hn (by
  have h3 : (txsQ l)[i]? = (txsQ m)[i]? := by rw [e]
  rw [List.getElem?_map, List.getElem?_map, List.getElem?_eq_getElem h, List.getElem?_eq_getElem h2] at h3
  simpa using h3)
theorem blk_eq {a b : Blk} : a = b ↔ a.height = b.height ∧ a.prev = b.prev ∧ a.txs = b.txs := by
  cases a; cases b; simp
theorem bkSame_all {q r : Blq} (h1 : q.height = r.height) (h2 : q.prev = r.prev) : decide (txsQ q.l = txsQ r.l) = decide (q.b = r.b) := by
  rw [decide_eq_decide, blk_eq]
  exact ⟨fun h => ⟨h1, h2, h⟩, fun h => h.2.2⟩
theorem bkSame_no {q r : Blq} (h : ¬ (q.height = r.height ∧ q.prev = r.prev)) : false = decide (q.b = r.b) := by
  symm
  rw [decide_eq_false_iff_not, blk_eq]
  exact fun e => h ⟨e.1, e.2.1⟩
def strBlock : ByteArray := ⟨#[98, 108, 111, 99, 107]⟩
def strFirst : ByteArray := ⟨#[102, 105, 114, 115, 116]⟩
def bkID (b : Blk) : ByteArray := if bkRight b = true then tagS strBlock [putS b.height, b.prev, catB (b.txs.map txID)] else ⟨#[]⟩
def firstS (o : Oup) : ByteArray := putS o.amount ++ o.key
def bkFirst (l : List Oup) : ByteArray := tagS strFirst [catB (l.map firstS)]
theorem txID_le (t : Trx) : (txID t).size ≤ 16 := by
  unfold txID
  split
  · exact Nat.zero_le _
  · rw [tagS_size]; exact Nat.le_refl _
theorem cat_take {α : Type} {f : α → ByteArray} {l : List α} {i : Nat} (h : i < l.length) : catB ((l.take (i + 1)).map f) = catB ((l.take i).map f) ++ f l[i] := by
  rw [List.take_succ_eq_append_getElem h, List.map_append, catB_append]
  show _ ++ (f l[i] ++ (⟨#[]⟩ : ByteArray)) = _
  rw [show f l[i] ++ (⟨#[]⟩ : ByteArray) = f l[i] from ByteArray.append_empty]
theorem cat_le {α : Type} {f : α → ByteArray} {n : Nat} {l : List α} (h : ∀ x ∈ l, (f x).size ≤ n) (i : Nat) (hi : i ≤ l.length) : (catB ((l.take i).map f)).size ≤ n * i := by
  have := cat_size (f := f) (n := n) (l := l.take i) fun x hx => h x (List.mem_of_mem_take hx)
  rw [List.length_take, Nat.min_eq_left hi] at this
  exact this
def bkHead (h : Int) (p : ByteArray) (n : Nat) : WS := wByte (wHash (wNum (wByte w0 66) h) p) n
def bkF (w : WS) (q : Txq) : WS := wBlob w (txEnc q.t)
theorem bkPut_eq (q : Blq) : bkPut q.b = q.l.foldl bkF (bkHead q.height q.prev q.l.length) := by
  show (txsQ q.l).foldl _ (wByte (wHash (wNum (wByte w0 66) q.height) q.prev) (txsQ q.l).length) = _
  rw [List.foldl_map, List.length_map]
  rfl
theorem bkHead_size (h : Int) (p : ByteArray) (n : Nat) : (bkHead h p n).1.size ≤ 100 := by
  unfold bkHead
  refine wle0 ?_
  apply wle_byte; apply wle_hash; apply wle_num; apply wle_byte
  have : w0.1.size = 0 := rfl
  omega
theorem bkF_size (h : Int) (p : ByteArray) (n : Nat) (l : List Txq) (i : Nat) (hl : l.length ≤ 8) : ((l.take i).foldl bkF (bkHead h p n)).1.size ≤ 40000 := by
  refine wle0 (wle_fold (n := 4098) (fun w x a K h => wle_blob h) _ ?_)
  have := bkHead_size h p n
  rw [List.length_take]
  omega

theorem oddt_any (q : Txq) (w : World) (hq : q.At w) (hL : Low q.t) :
  Calls Try.prog 31 #[.agg (Txq.c q).toArray] w fun e w' => e = .returned (.bool (oddT q)) ∧ Ch [] w w' := by
 refine calls_of (n := 6) (E := [(0, .agg (Txq.c q).toArray)]) (W := Hp w [] []) Try.func31 rfl rfl (Nat.le_of_ble_eq_true rfl) rfl (Hp.nil _ _) ?_
 refine jsr ?_
 refine jl_m rfl (by decide) rfl (m_box rfl rfl) (fun b1 => ?_)
 refine jz ?_
 refine jnt ?_
 refine jsr ?_
 refine jz ?_
 refine jpc (goes_func rfl) (fun w1 hw1 => txright_any q.t q.a1 q.c1 q.a2 q.c2 q.a3 q.c3 w1 (hq.ins.keep hw1) (hq.outs.keep hw1) (hq.wins.keep hw1) hL.a hL.b hL.d) ?_
 refine jz ?_
 refine jz ?_
 refine jnt ?_
 refine jc_ret ?_
 refine jq_ret1 rfl rfl ?_
 exact fun _ hw => ⟨rfl, hw.ch⟩

theorem idxT_any (ad : Option Addr) (l : List Txq) (c : Nat) (w : World) (hl : l.length ≤ 1000000) (hE : TxsAt w ad l) (hL : ∀ q ∈ l, Low q.t) :
  Calls Try.prog 65 #[.slice ad l.length c, .func (.func 31) #[] #[]] w fun e w' => e = .returned (.int .i64 (idxF oddT l)) ∧ Ch [] w w' := by
 refine calls_of (n := 19) (E := [(0, .slice ad l.length c), (1, .func (.func 31) #[] #[])]) (W := Hp w [] []) Try.func65 rfl rfl (Nat.le_of_ble_eq_true rfl) rfl (Hp.nil _ _) ?_
 refine jsr ?_
 refine jz ?_
 refine jnt ?_
 refine jc_seq ?_
 refine jsr ?_
 refine jz ?_
 refine jy (y_len_slice rfl) ?_
 refine jz ?_
 refine jnt ?_
 refine jc_block ?_
 refine jc_loop (fun (i : Nat) => [(0, .slice ad l.length c), (1, .func (.func 31) #[] #[]), (7, .int .i64 l.length), (8, .int .i64 (i : Nat))]) (fun (i : Nat) => fun w' => (i ≤ l.length ∧ ∀ j z, j < i → l[j]? = some z → oddT z = false) ∧ Hp w [] [] w') (fun (i : Nat) => l.length - i) 0 ?_ ?_ ?_
 ·exact ⟨rfl, rfl, rfl, rfl, trivial⟩
 ·exact fun _ h => ⟨⟨by omega, fun j z hj _ => absurd hj (by omega)⟩, h⟩
 ·intro i
  refine jc_and (fun hi2 => ?_)
  obtain ⟨hi, hno⟩ := hi2
  refine jsr ?_
  refine jy (y_lss rfl rfl) ?_
  refine jl_prop (fun h9 => ?_) (fun h9 => ?_)
  ·first
   | (exfalso; omega)
   | (
    have hlt : i < l.length := by omega
    obtain ⟨bb, oo, ea, hold⟩ := hE.get hlt
    subst ea
    have hqa := hE.each _ (List.getElem_mem hlt)
    have hql := hL _ (List.getElem_mem hlt)
    generalize hxe : l[i]'hlt = q at *
    refine jnt ?_
    refine jc_seq ?_
    refine jc_true rfl ?_
    refine jc_skip ?_
    refine jq_then ?_
    refine jc_seq ?_
    refine jc_block ?_
    refine jsr ?_
    refine jz ?_
    refine jz ?_
    refine jnt ?_
    refine jsr ?_
    refine jz ?_
    refine jz ?_
    refine jz ?_
    refine jy (y_indexAddr_slice (off := oo + i * 6) rfl rfl (by omega) (by omega) (by omega)) ?_
    refine jy (y_loadAgg_old rfl rfl hold (by simp)) ?_
    refine jl_pcall rfl (by decide) rfl (goes_value rfl rfl) (fun w1 hw1 => pcall hw1 (oddt_any q w1 (hqa.keep hw1) hql)) ?_
    refine jl_bool (fun h16 => ?_) (fun h16 => ?_)
    ·skip
     refine jnt ?_
     refine jc_true rfl ?_
     refine jsr ?_
     refine jz ?_
     refine jz ?_
     refine jnt ?_
     refine jc_ret ?_
     refine jq_block_ret ?_
     refine jq_then_ret ?_
     refine jq_then_ret ?_
     refine jq_block_ret ?_
     refine jq_then_ret ?_
     refine jq_ret1 rfl rfl ?_
     exact fun _ hw => ⟨by rw [idx_hit hno (by rw [List.getElem?_eq_getElem hlt, hxe]) h16], hw.ch⟩
    ·skip
     refine jnt ?_
     refine jc_false rfl ?_
     refine jc_skip ?_
     refine jq_block ?_
     refine jq_then ?_
     refine jc_region ?_
     refine jy (y_add_fits rfl rfl (by simp only [fits]; omega)) ?_
     refine jz ?_
     refine jl_nil ?_
     refine jq_round (i := i) (i + 1) ?_ ?_ ?_
     ·omega
     ·exact ⟨rfl, rfl, rfl, lk_int rfl (by omega), trivial⟩
     ·exact fun _ h => ⟨⟨by omega, fun j z hj hz => (Nat.lt_succ_iff_lt_or_eq.1 hj).elim (fun h2 => hno j z h2 hz) (fun e => by subst e; rw [List.getElem?_eq_getElem hlt, hxe] at hz; cases hz; exact h16)⟩, h⟩
    )
  ·first
   | (exfalso; omega)
   | (
    refine jnt ?_
    refine jc_seq ?_
    refine jc_false rfl ?_
    refine jc_exit ?_
    refine jq_then_exit ?_
    refine jq_then_exit ?_
    refine jq_hit ?_
    refine jq_then ?_
    refine jsr ?_
    refine jz ?_
    refine jnt ?_
    refine jc_ret ?_
    refine jq_ret1 rfl rfl ?_
    exact fun _ hw => ⟨by rw [idx_none (fun j z hj => hno j z (by omega))], hw.ch⟩
    )

theorem hasT_any (ad : Option Addr) (l : List Txq) (c : Nat) (w : World) (hl : l.length ≤ 1000000) (hE : TxsAt w ad l) (hL : ∀ q ∈ l, Low q.t) :
  Calls Try.prog 33 #[.slice ad l.length c, .func (.func 31) #[] #[]] w fun e w' => e = .returned (.bool (l.any oddT)) ∧ Ch [] w w' := by
 refine calls_of (n := 9) (E := [(0, .slice ad l.length c), (1, .func (.func 31) #[] #[])]) (W := Hp w [] []) Try.func33 rfl rfl (Nat.le_of_ble_eq_true rfl) rfl (Hp.nil _ _) ?_
 refine jsr ?_
 refine jz ?_
 refine jnt ?_
 refine jsr ?_
 refine jz ?_
 refine jz ?_
 refine jpc (goes_func rfl) (fun w1 hw1 => idxT_any ad l c w1 hl (hE.keep hw1) hL) ?_
 refine jy (y_geq rfl rfl) ?_
 refine jl_as (u := .bool (l.any oddT)) (congrArg Value.bool (idx_any oddT l)) ?_
 refine jz ?_
 refine jnt ?_
 refine jc_ret ?_
 refine jq_ret1 rfl rfl ?_
 exact fun _ hw => ⟨rfl, hw.ch⟩

theorem bkright_any (q : Blq) (w : World) (hl : q.l.length ≤ 1000000) (hE : TxsAt w q.ad q.l) (hL : ∀ x ∈ q.l, Low x.t) :
  Calls Try.prog 9 #[.agg (Blq.c q).toArray] w fun e w' => e = .returned (.bool (bkRight q.b)) ∧ Ch [] w w' := by
 refine calls_of (n := 31) (E := [(0, .agg (Blq.c q).toArray)]) (W := Hp w [] []) Try.func9 rfl rfl (Nat.le_of_ble_eq_true rfl) rfl (Hp.nil _ _) ?_
 refine jsr ?_
 refine jl_m rfl (by decide) rfl (m_box rfl rfl) (fun b1 => ?_)
 refine jz ?_
 refine jnt ?_
 refine jsr ?_
 refine jz ?_
 refine jnt ?_
 refine jsr ?_
 refine jz ?_
 refine jz ?_
 refine jy (y_geq rfl rfl) ?_
 refine jl_prop (fun h6 => ?_) (fun h6 => ?_)
 ·first
  | (exfalso; omega)
  | (
   refine jz ?_
   refine jz ?_
   refine jz ?_
   refine jy (y_leq rfl rfl) ?_
   refine jl_prop (fun h10 => ?_) (fun h10 => ?_)
   ·first
    | (exfalso; omega)
    | (
     refine jy (y_pick_true rfl rfl) ?_
     refine jz ?_
     refine jz ?_
     refine jz ?_
     refine jy (y_len_str rfl) ?_
     refine jy (y_eql rfl rfl) ?_
     refine jl_prop (fun h16 => ?_) (fun h16 => ?_)
     ·first
      | (exfalso; omega)
      | (
       refine jy (y_pick_true rfl rfl) ?_
       refine jz ?_
       refine jz ?_
       refine jz ?_
       refine jy (y_len_slice rfl) ?_
       refine jy (y_leq rfl rfl) ?_
       refine jl_prop (fun h22 => ?_) (fun h22 => ?_)
       ·first
        | (exfalso; omega)
        | (
         refine jy (y_pick_true rfl rfl) ?_
         refine jz ?_
         refine jz ?_
         refine jz ?_
         refine jz ?_
         refine jpc (goes_func rfl) (fun w1 hw1 => hasT_any q.ad q.l q.cp w1 hl (hE.keep hw1) hL) ?_
         refine jz ?_
         refine jy (y_pick_true rfl rfl) ?_
         refine jz ?_
         refine jnt ?_
         refine jc_ret ?_
         refine jq_ret1 rfl rfl ?_
         exact fun _ hw => ⟨congrArg (fun b => Ending.returned (Value.bool b)) (by first | exact bkRight_all ⟨by omega, by omega, by omega, by omega⟩ | exact bkRight_bad (by omega)), hw.ch⟩
         )
       ·first
        | (exfalso; omega)
        | (
         refine jy (y_pick_true rfl rfl) ?_
         refine jz ?_
         refine jsk ?_
         refine jsk ?_
         refine jsk ?_
         refine jsk ?_
         refine jsk ?_
         refine jy (y_pick_false rfl rfl) ?_
         refine jz ?_
         refine jnt ?_
         refine jc_ret ?_
         refine jq_ret1 rfl rfl ?_
         exact fun _ hw => ⟨congrArg (fun b => Ending.returned (Value.bool b)) (by first | exact bkRight_all ⟨by omega, by omega, by omega, by omega⟩ | exact bkRight_bad (by omega)), hw.ch⟩
         )
       )
     ·first
      | (exfalso; omega)
      | (
       refine jy (y_pick_true rfl rfl) ?_
       refine jz ?_
       refine jsk ?_
       refine jsk ?_
       refine jsk ?_
       refine jsk ?_
       refine jy (y_pick_false rfl rfl) ?_
       refine jz ?_
       refine jsk ?_
       refine jsk ?_
       refine jsk ?_
       refine jsk ?_
       refine jsk ?_
       refine jy (y_pick_false rfl rfl) ?_
       refine jz ?_
       refine jnt ?_
       refine jc_ret ?_
       refine jq_ret1 rfl rfl ?_
       exact fun _ hw => ⟨congrArg (fun b => Ending.returned (Value.bool b)) (by first | exact bkRight_all ⟨by omega, by omega, by omega, by omega⟩ | exact bkRight_bad (by omega)), hw.ch⟩
       )
     )
   ·first
    | (exfalso; omega)
    | (
     refine jy (y_pick_true rfl rfl) ?_
     refine jz ?_
     refine jsk ?_
     refine jsk ?_
     refine jsk ?_
     refine jsk ?_
     refine jy (y_pick_false rfl rfl) ?_
     refine jz ?_
     refine jsk ?_
     refine jsk ?_
     refine jsk ?_
     refine jsk ?_
     refine jy (y_pick_false rfl rfl) ?_
     refine jz ?_
     refine jsk ?_
     refine jsk ?_
     refine jsk ?_
     refine jsk ?_
     refine jsk ?_
     refine jy (y_pick_false rfl rfl) ?_
     refine jz ?_
     refine jnt ?_
     refine jc_ret ?_
     refine jq_ret1 rfl rfl ?_
     exact fun _ hw => ⟨congrArg (fun b => Ending.returned (Value.bool b)) (by first | exact bkRight_all ⟨by omega, by omega, by omega, by omega⟩ | exact bkRight_bad (by omega)), hw.ch⟩
     )
   )
 ·first
  | (exfalso; omega)
  | (
   refine jz ?_
   refine jsk ?_
   refine jsk ?_
   refine jsk ?_
   refine jy (y_pick_false rfl rfl) ?_
   refine jz ?_
   refine jsk ?_
   refine jsk ?_
   refine jsk ?_
   refine jsk ?_
   refine jy (y_pick_false rfl rfl) ?_
   refine jz ?_
   refine jsk ?_
   refine jsk ?_
   refine jsk ?_
   refine jsk ?_
   refine jy (y_pick_false rfl rfl) ?_
   refine jz ?_
   refine jsk ?_
   refine jsk ?_
   refine jsk ?_
   refine jsk ?_
   refine jsk ?_
   refine jy (y_pick_false rfl rfl) ?_
   refine jz ?_
   refine jnt ?_
   refine jc_ret ?_
   refine jq_ret1 rfl rfl ?_
   exact fun _ hw => ⟨congrArg (fun b => Ending.returned (Value.bool b)) (by first | exact bkRight_all ⟨by omega, by omega, by omega, by omega⟩ | exact bkRight_bad (by omega)), hw.ch⟩
   )

theorem bhigh_any (n : Int) (w : World) (hn : fits .i64 n) :
  Calls Try.prog 16 #[.int .i64 n] w fun e w' => e = .returned (.int .u64 (cntN n)) ∧ Ch [] w w' := by
 refine calls_of (n := 11) (E := [(0, .int .i64 n)]) (W := Hp w [] []) Try.func16 rfl rfl (Nat.le_of_ble_eq_true rfl) rfl (Hp.nil _ _) ?_
 refine jsr ?_
 refine jz ?_
 refine jnt ?_
 refine jsr ?_
 refine jz ?_
 refine jpc (goes_func rfl) (fun w1 hw1 => of_any n w1 hn) ?_
 refine jz ?_
 refine jz ?_
 refine jz ?_
 refine jz ?_
 refine jz ?_
 refine jnt ?_
 refine jsr ?_
 refine jz ?_
 refine jz ?_
 refine jnt ?_
 refine jc_ret ?_
 refine jq_ret1 rfl rfl ?_
 exact fun _ hw => ⟨rfl, hw.ch⟩

theorem joinT_any (ad : Option Addr) (l : List Txq) (c : Nat) (w : World) (hl : l.length ≤ 1000000) (hE : TxsAt w ad l) (hL : ∀ q ∈ l, Low q.t) (hF : ∀ q ∈ l, q.t.Fit) :
  Calls Try.prog 40 #[.slice ad l.length c, .func (.func 41) #[] #[]] w fun e w' => e = .returned (.string (catB (l.map fun q => txID q.t))) ∧ Ch [] w w' := by
 refine calls_of (n := 21) (E := [(0, .slice ad l.length c), (1, .func (.func 41) #[] #[])]) (W := Hp w [] []) Try.func40 rfl rfl (Nat.le_of_ble_eq_true rfl) rfl (Hp.nil _ _) ?_
 refine jsr ?_
 refine jz ?_
 refine jnt ?_
 refine jsr ?_
 refine jz ?_
 refine jnt ?_
 refine jc_seq ?_
 refine jsr ?_
 refine jz ?_
 refine jy (y_len_slice rfl) ?_
 refine jz ?_
 refine jnt ?_
 refine jc_block ?_
 refine jc_loop (fun (i : Nat) => [(1, .func (.func 41) #[] #[]), (5, .string (catB ((l.take i).map fun q => txID q.t))), (8, .slice ad l.length c), (9, .int .i64 l.length), (10, .int .i64 (i : Nat))]) (fun (i : Nat) => fun w' => i ≤ l.length ∧ Hp w [] [] w') (fun (i : Nat) => l.length - i) 0 ?_ ?_ ?_
 ·exact ⟨rfl, rfl, rfl, rfl, rfl, trivial⟩
 ·exact fun _ h => ⟨by omega, h⟩
 ·intro i
  refine jc_and (fun hi => ?_)
  refine jsr ?_
  refine jy (y_lss rfl rfl) ?_
  refine jl_prop (fun h11 => ?_) (fun h11 => ?_)
  ·first
   | (exfalso; omega)
   | (
    have hlt : i < l.length := by omega
    obtain ⟨bb, oo, ea, hold⟩ := hE.get hlt
    subst ea
    have hqa := hE.each _ (List.getElem_mem hlt)
    have hql := hL _ (List.getElem_mem hlt)
    have hqf := hF _ (List.getElem_mem hlt)
    generalize hxe : l[i]'hlt = q at *
    have hcs := cat_le (f := fun q : Txq => txID q.t) (n := 16) (l := l) (fun q _ => txID_le q.t) i (by omega)
    have hts := txID_le q.t
    have hnx := cat_take (f := fun q : Txq => txID q.t) hlt
    rw [hxe] at hnx
    refine jnt ?_
    refine jc_seq ?_
    refine jc_true rfl ?_
    refine jc_skip ?_
    refine jq_then ?_
    refine jc_seq ?_
    refine jc_block ?_
    refine jsr ?_
    refine jy (y_indexAddr_slice (off := oo + i * 6) rfl rfl (by omega) (by omega) (by omega)) ?_
    refine jy (y_loadAgg_old rfl rfl hold (by simp)) ?_
    refine jl_m rfl (by decide) rfl (m_alloc) (fun b7 => ?_)
    refine jst ?_
    refine jnt ?_
    refine jc_region ?_
    refine jz ?_
    refine jz ?_
    refine jz ?_
    refine jl_pcall rfl (by decide) rfl (goes_value rfl rfl) (fun w1 hw1 => pcall hw1 (txid_any q.t q.a1 q.c1 q.a2 q.c2 q.a3 q.c3 w1 (hqa.ins.keep hw1) (hqa.outs.keep hw1) (hqa.wins.keep hw1) hql.a hql.b hql.d hqf)) ?_
    refine jy (y_concat rfl rfl (by omega)) ?_
    refine jl_as (u := .string (catB ((l.take (i + 1)).map fun q => txID q.t))) (congrArg Value.string hnx.symm) ?_
    refine jz ?_
    refine jl_nil ?_
    refine jq_block ?_
    refine jq_then ?_
    refine jc_region ?_
    refine jy (y_add_fits rfl rfl (by simp only [fits]; omega)) ?_
    refine jz ?_
    refine jl_nil ?_
    refine jq_round (i := i) (i + 1) ?_ ?_ ?_
    ·omega
    ·exact ⟨rfl, rfl, rfl, rfl, lk_int rfl (by omega), trivial⟩
    ·exact fun _ h => ⟨by omega, h.part .nil⟩
    )
  ·first
   | (exfalso; omega)
   | (
    refine jnt ?_
    refine jc_seq ?_
    refine jc_false rfl ?_
    refine jc_exit ?_
    refine jq_then_exit ?_
    refine jq_then_exit ?_
    refine jq_hit ?_
    refine jq_then ?_
    refine jsr ?_
    refine jz ?_
    refine jz ?_
    refine jnt ?_
    refine jc_ret ?_
    refine jq_ret1 rfl rfl ?_
    exact fun _ hw => ⟨by rw [List.take_of_length_le (by omega)], hw.ch⟩
    )

theorem first1_any (o : Oup) (w : World) (hf : o.Fit) (hk : o.key.size ≤ 1000000) :
  Calls Try.prog 71 #[.agg (Oup.c o).toArray] w fun e w' => e = .returned (.string (firstS o)) ∧ Ch [] w w' := by
 refine calls_of (n := 9) (E := [(0, .agg (Oup.c o).toArray)]) (W := Hp w [] []) Try.func71 rfl rfl (Nat.le_of_ble_eq_true rfl) rfl (Hp.nil _ _) ?_
 refine jsr ?_
 refine jl_m rfl (by decide) rfl (m_box rfl rfl) (fun b1 => ?_)
 refine jz ?_
 refine jnt ?_
 refine jc_seq ?_
 refine jc_draw (by kernel_rfl) (fun _ h => h.drew) ?_
 refine juz ?_
 refine juz ?_
 refine ju_call rfl (by decide) rfl (goes_func rfl) (fun w1 hw1 => pcall hw1 (put_any o.amount w1 hf.amount)) ?_
 refine juz ?_
 refine juz ?_
 refine juy (y_concat rfl rfl (by (rw [putS_size]; omega))) ?_
 refine juz ?_
 refine ju_nil ?_
 refine jq_then ?_
 refine jc_ret ?_
 refine jq_ret1 rfl rfl ?_
 exact fun _ hw => ⟨rfl, hw.ch⟩

theorem joinO_any (ad : Option Addr) (l : List Oup) (c : Nat) (w : World) (hl : l.length ≤ 100) (hE : ElAt w ad 9 (l.map Oup.c)) (hF : ∀ o ∈ l, o.Fit) (hK : ∀ o ∈ l, o.key.size ≤ 1000) :
  Calls Try.prog 70 #[.slice ad l.length c, .func (.func 71) #[] #[]] w fun e w' => e = .returned (.string (catB (l.map firstS))) ∧ Ch [] w w' := by
 refine calls_of (n := 21) (E := [(0, .slice ad l.length c), (1, .func (.func 71) #[] #[])]) (W := Hp w [] []) Try.func70 rfl rfl (Nat.le_of_ble_eq_true rfl) rfl (Hp.nil _ _) ?_
 refine jsr ?_
 refine jz ?_
 refine jnt ?_
 refine jsr ?_
 refine jz ?_
 refine jnt ?_
 refine jc_seq ?_
 refine jsr ?_
 refine jz ?_
 refine jy (y_len_slice rfl) ?_
 refine jz ?_
 refine jnt ?_
 refine jc_block ?_
 refine jc_loop (fun (i : Nat) => [(1, .func (.func 71) #[] #[]), (5, .string (catB ((l.take i).map firstS))), (8, .slice ad l.length c), (9, .int .i64 l.length), (10, .int .i64 (i : Nat))]) (fun (i : Nat) => fun w' => i ≤ l.length ∧ Hp w [] [] w') (fun (i : Nat) => l.length - i) 0 ?_ ?_ ?_
 ·exact ⟨rfl, rfl, rfl, rfl, rfl, trivial⟩
 ·exact fun _ h => ⟨by omega, h⟩
 ·intro i
  refine jc_and (fun hi => ?_)
  refine jsr ?_
  refine jy (y_lss rfl rfl) ?_
  refine jl_prop (fun h11 => ?_) (fun h11 => ?_)
  ·first
   | (exfalso; omega)
   | (
    have hlt : i < l.length := by omega
    obtain ⟨bb, oo, ea, hold⟩ := hE.get hlt
    subst ea
    have hqf := hF _ (List.getElem_mem hlt)
    have hqk := hK _ (List.getElem_mem hlt)
    have hcs := cat_le (f := firstS) (n := 1008) (l := l) (fun q hq => by unfold firstS; rw [ByteArray.size_append, putS_size]; have := hK q hq; omega) i (by omega)
    have hnx := cat_take (f := firstS) hlt
    generalize hxe : l[i]'hlt = q at *
    have hts : (firstS q).size ≤ 1008 := by unfold firstS; rw [ByteArray.size_append, putS_size]; omega
    refine jnt ?_
    refine jc_seq ?_
    refine jc_true rfl ?_
    refine jc_skip ?_
    refine jq_then ?_
    refine jc_seq ?_
    refine jc_block ?_
    refine jsr ?_
    refine jy (y_indexAddr_slice (off := oo + i * 9) rfl rfl (by omega) (by omega) (by omega)) ?_
    refine jy (y_loadAgg_old rfl rfl hold (by simp)) ?_
    refine jl_m rfl (by decide) rfl (m_alloc) (fun b7 => ?_)
    refine jst ?_
    refine jnt ?_
    refine jc_region ?_
    refine jz ?_
    refine jz ?_
    refine jz ?_
    refine jl_pcall rfl (by decide) rfl (goes_value rfl rfl) (fun w1 hw1 => pcall hw1 (first1_any q w1 hqf (by omega))) ?_
    refine jy (y_concat rfl rfl (by omega)) ?_
    refine jl_as (u := .string (catB ((l.take (i + 1)).map firstS))) (congrArg Value.string hnx.symm) ?_
    refine jz ?_
    refine jl_nil ?_
    refine jq_block ?_
    refine jq_then ?_
    refine jc_region ?_
    refine jy (y_add_fits rfl rfl (by simp only [fits]; omega)) ?_
    refine jz ?_
    refine jl_nil ?_
    refine jq_round (i := i) (i + 1) ?_ ?_ ?_
    ·omega
    ·exact ⟨rfl, rfl, rfl, rfl, lk_int rfl (by omega), trivial⟩
    ·exact fun _ h => ⟨by omega, h.part .nil⟩
    )
  ·first
   | (exfalso; omega)
   | (
    refine jnt ?_
    refine jc_seq ?_
    refine jc_false rfl ?_
    refine jc_exit ?_
    refine jq_then_exit ?_
    refine jq_then_exit ?_
    refine jq_hit ?_
    refine jq_then ?_
    refine jsr ?_
    refine jz ?_
    refine jz ?_
    refine jnt ?_
    refine jc_ret ?_
    refine jq_ret1 rfl rfl ?_
    exact fun _ hw => ⟨by rw [List.take_of_length_le (by omega)], hw.ch⟩
    )

theorem bfirst_any (ad : Option Addr) (l : List Oup) (c : Nat) (w : World) (hl : l.length ≤ 100) (hE : ElAt w ad 9 (l.map Oup.c)) (hF : ∀ o ∈ l, o.Fit) (hK : ∀ o ∈ l, o.key.size ≤ 1000) :
  Calls Try.prog 38 #[.slice ad l.length c] w fun e w' => e = .returned (.string (bkFirst l)) ∧ Ch [] w w' := by
 have hcs := cat_size (f := firstS) (n := 1008) (l := l) (fun q hq => by unfold firstS; rw [ByteArray.size_append, putS_size]; have := hK q hq; omega)
 refine calls_of (n := 7) (E := [(0, .slice ad l.length c)]) (W := Hp w [] []) Try.func38 rfl rfl (Nat.le_of_ble_eq_true rfl) rfl (Hp.nil _ _) ?_
 refine jsr ?_
 refine jz ?_
 refine jnt ?_
 refine jsr ?_
 refine jz ?_
 refine jpc (goes_func rfl) (fun w1 hw1 => joinO_any ad l c w1 hl (hE.keep hw1) hF hK) ?_
 refine jl_m rfl (by decide) rfl (m_buildSlice (by decide) (Built.cell rfl rfl rfl (by repeat constructor) Built.nil)) (fun b5 => ?_)
 refine jpc (goes_func rfl) (fun w1 hw1 => tag_any strFirst (some ⟨b5, 0, none⟩) 1 [catB (l.map firstS)] w1 (by decide) (by simp) (all1 (by omega)) (Strs.of_row (hw1.get mem0))) ?_
 refine jz ?_
 refine jnt ?_
 refine jc_ret ?_
 refine jq_ret1 rfl rfl ?_
 exact fun _ hw => ⟨rfl, hw.ch⟩

theorem bbegin_any (ad : Option Addr) (l : List Oup) (c : Nat) (w : World) (hl : l.length ≤ 100) (hE : ElAt w ad 9 (l.map Oup.c)) (hF : ∀ o ∈ l, o.Fit) (hK : ∀ o ∈ l, o.key.size ≤ 1000) (n : Int) :
  Calls Try.prog 36 #[.slice ad l.length c, .int .i64 n] w fun e w' => e = .returned (.agg (Pnt.c ⟨bkFirst l, n⟩).toArray) ∧ Ch [] w w' := by
 refine calls_of (n := 9) (E := [(0, .slice ad l.length c), (1, .int .i64 n)]) (W := Hp w [] []) Try.func36 rfl rfl (Nat.le_of_ble_eq_true rfl) rfl (Hp.nil _ _) ?_
 refine jsr ?_
 refine jl_m rfl (by decide) rfl (m_alloc) (fun b4 => ?_)
 refine jnt ?_
 refine jsr ?_
 refine jz ?_
 refine jpc (goes_func rfl) (fun w1 hw1 => bfirst_any ad l c w1 hl (hE.keep hw1) hF hK) ?_
 refine jz ?_
 refine jy (y_build (Built.cell rfl rfl rfl (by repeat constructor) (Built.cell rfl rfl rfl (by repeat constructor) Built.nil))) ?_
 refine jst ?_
 refine jnt ?_
 refine jc_ret ?_
 refine jq_res (.inl rfl) rfl (.cell rfl (by first | exact ld_agg (by first | exact mem0 | exact mem1 | exact mem2 | exact mem3 | exact mem4 | exact mem5) (by repeat constructor) | exact ld_agg (by first | exact mem0 | exact mem1 | exact mem2 | exact mem3 | exact mem4 | exact mem5) (by assumption)) .nil) ?_
 exact fun _ hw => ⟨rfl, hw.ch⟩

theorem bkid_any (q : Blq) (w : World) (hl : q.l.length ≤ 1000000) (hE : TxsAt w q.ad q.l) (hL : ∀ x ∈ q.l, Low x.t) (hF : ∀ x ∈ q.l, x.t.Fit) (hh : fits .i64 q.height) :
  Calls Try.prog 12 #[.agg (Blq.c q).toArray] w fun e w' => e = .returned (.string (bkID q.b)) ∧ Ch [] w w' := by
 refine calls_of (n := 17) (E := [(0, .agg (Blq.c q).toArray)]) (W := Hp w [] []) Try.func12 rfl rfl (Nat.le_of_ble_eq_true rfl) rfl (Hp.nil _ _) ?_
 refine jsr ?_
 refine jl_m rfl (by decide) rfl (m_box rfl rfl) (fun b1 => ?_)
 refine jz ?_
 refine jnt ?_
 refine jc_seq ?_
 refine jsr ?_
 refine jz ?_
 refine jpc (goes_func rfl) (fun w1 hw1 => bkright_any q w1 hl (hE.keep hw1) hL) ?_
 refine jl_bool (fun h4 => ?_) (fun h4 => ?_)
 ·skip
  have hrb : bkRight q.b = true := by assumption
  obtain ⟨r1, r2, r3, r4, r5⟩ := bkRight_iff.1 hrb
  rw [List.length_map] at r4
  have r1 : 1 ≤ q.height := r1
  have r2 : q.height ≤ 4294967295 := r2
  have r3 : q.prev.size = 16 := r3
  have hcs := cat_size (f := fun x : Txq => txID x.t) (n := 16) (l := q.l) (fun x _ => txID_le x.t)
  refine jz ?_
  refine jnt ?_
  refine jc_false rfl ?_
  refine jc_skip ?_
  refine jq_then ?_
  refine jc_seq ?_
  refine jc_tail 9 (by kernel_rfl) (fun _ h => h.drew) ?_
  simp only [List.take_succ_cons, List.take_zero, List.drop_succ_cons, List.drop_zero]
  refine jtz ?_
  refine jtz ?_
  refine jt_call rfl (by decide) rfl (goes_func rfl) (fun w1 hw1 => pcall hw1 (bhigh_any q.height w1 hh)) ?_
  refine jt_as (u := .int .u64 q.height) (congrArg (Value.int .u64) (by unfold cntN; rw [if_neg (by omega)])) ?_
  refine jt_call rfl (by decide) rfl (goes_func rfl) (fun w1 hw1 => pcall hw1 (put_any q.height w1 (by simp only [fits]; omega))) ?_
  refine jtz ?_
  refine jtz ?_
  refine jtz ?_
  refine jtz ?_
  refine jt_call rfl (by decide) rfl (goes_func rfl) (fun w1 hw1 => pcall hw1 (joinT_any q.ad q.l q.cp w1 hl (hE.keep hw1) hL hF)) ?_
  refine jt_nil ?_
  refine jl_m rfl (by decide) rfl (m_buildSlice (by decide) (Built.cell rfl rfl rfl (by repeat constructor) (Built.cell rfl rfl rfl (by repeat constructor) (Built.cell rfl rfl rfl (by repeat constructor) Built.nil)))) (fun b15 => ?_)
  refine jpc (goes_func rfl) (fun w1 hw1 => tag_any strBlock (some ⟨b15, 0, none⟩) 3 [putS q.height, q.prev, catB (q.l.map fun x : Txq => txID x.t)] w1 (by decide) (by simp) (all3 (by rw [putS_size]; decide) (by omega) (by omega)) (Strs.of_row (hw1.get mem0))) ?_
  refine jz ?_
  refine jnt ?_
  refine jc_ret ?_
  refine jq_ret1 rfl rfl ?_
  exact fun _ hw => ⟨by unfold bkID; rw [if_pos hrb, show q.b.txs.map txID = q.l.map fun x : Txq => txID x.t from List.map_map ..], hw.ch⟩
 ·skip
  refine jz ?_
  refine jnt ?_
  refine jc_true rfl ?_
  refine jsr ?_
  refine jz ?_
  refine jnt ?_
  refine jc_ret ?_
  refine jq_then_ret ?_
  refine jq_ret1 rfl rfl ?_
  exact fun _ hw => ⟨by unfold bkID; rw [if_neg (by simp_all)], hw.ch⟩

theorem bkenc_of (qh : Int) (qp : ByteArray) (l : List Txq) (ad : Option Addr) (cp : Nat) (w : World) (hl : l.length ≤ 1000000) (hE : TxsAt w ad l) (hL : ∀ x ∈ l, Low x.t) (hF : ∀ x ∈ l, x.t.Fit) (hh : fits .i64 qh) :
  Calls Try.prog 7 #[.agg (Blq.c (⟨qh, qp, l, ad, cp⟩ : Blq)).toArray] w fun e w' => e = .returned (.string (bkEnc (⟨qh, qp, l, ad, cp⟩ : Blq).b)) ∧ Ch [] w w' := by
 refine calls_of (n := 33) (E := [(0, .agg (Blq.c (⟨qh, qp, l, ad, cp⟩ : Blq)).toArray)]) (W := Hp w [] []) Try.func7 rfl rfl (Nat.le_of_ble_eq_true rfl) rfl (Hp.nil _ _) ?_
 refine jsr ?_
 refine jl_m rfl (by decide) rfl (m_box rfl rfl) (fun b1 => ?_)
 refine jz ?_
 refine jnt ?_
 refine jc_seq ?_
 refine jsr ?_
 refine jz ?_
 refine jpc (goes_func rfl) (fun w1 hw1 => bkright_any (⟨qh, qp, l, ad, cp⟩ : Blq) w1 hl (hE.keep hw1) hL) ?_
 refine jl_bool (fun h7 => ?_) (fun h7 => ?_)
 ·skip
  have hrb : bkRight (⟨qh, qp, l, ad, cp⟩ : Blq).b = true := by assumption
  obtain ⟨r1, r2, r3, r4, r5⟩ := bkRight_iff.1 hrb
  rw [List.length_map] at r4
  have r1 : 1 ≤ qh := r1
  have r2 : qh ≤ 4294967295 := r2
  have r3 : qp.size = 16 := r3
  refine jz ?_
  refine jnt ?_
  refine jc_false rfl ?_
  refine jc_skip ?_
  refine jq_then ?_
  refine jsr ?_
  refine jl_m rfl (by decide) rfl (m_alloc) (fun b3 => ?_)
  refine jnt ?_
  refine jsr ?_
  refine juc (goes_func rfl) (fun w1 hw1 => wbyte_any b3 (w0) (66) (by simp only [fits]; decide) w1 (wz) hw1) ?_
  refine jnt ?_
  refine jsr ?_
  refine jz ?_
  refine jz ?_
  refine jpc (goes_func rfl) (fun w1 hw1 => bhigh_any qh w1 hh) ?_
  refine jl_as (u := .int .u64 qh) (congrArg (Value.int .u64) (by unfold cntN; rw [if_neg (by omega)])) ?_
  refine juc (goes_func rfl) (fun w1 hw1 => wnum_any b3 (wByte (w0) (66)) (qh) (by simp only [fits]; omega) w1 (wz) hw1) ?_
  refine jnt ?_
  refine jsr ?_
  refine jz ?_
  refine jz ?_
  refine juc (goes_func rfl) (fun w1 hw1 => whash_any b3 (wNum (wByte (w0) (66)) (qh)) (qp) (by omega) w1 (wz) hw1) ?_
  refine jnt ?_
  refine jsr ?_
  refine jz ?_
  refine jz ?_
  refine jy (y_len_slice rfl) ?_
  refine juc (goes_func rfl) (fun w1 hw1 => wbyte_any b3 (wHash (wNum (wByte (w0) (66)) (qh)) (qp)) (((l.length : Nat) : Int)) (by simp only [fits]; omega) w1 (wz) hw1) ?_
  refine jnt ?_
  refine jc_seq ?_
  refine jsr ?_
  refine jz ?_
  refine jz ?_
  refine jy (y_len_slice rfl) ?_
  refine jz ?_
  refine jnt ?_
  refine jc_block ?_
  refine jc_loop (fun (i : Nat) => [(1, .pointer (some ⟨b1, 0, none⟩)), (3, .pointer (some ⟨b3, 0, none⟩)), (22, .slice ad l.length cp), (23, .int .i64 l.length), (24, .int .i64 (i : Nat))]) (fun (i : Nat) => fun w' => i ≤ l.length ∧ Hp w [] [.cells b3 [.string (((l.take i).foldl bkF (bkHead qh qp l.length))).1, .int .i64 (((l.take i).foldl bkF (bkHead qh qp l.length))).2], .cells b1 (Blq.c (⟨qh, qp, l, ad, cp⟩ : Blq))] w') (fun (i : Nat) => l.length - i) 0 ?_ ?_ ?_
  ·exact ⟨rfl, rfl, rfl, rfl, rfl, trivial⟩
  ·exact fun _ h => ⟨by omega, h⟩
  ·intro i
   refine jc_and (fun hi => ?_)
   refine jsr ?_
   refine jy (y_lss rfl rfl) ?_
   refine jl_prop (fun h25 => ?_) (fun h25 => ?_)
   ·first
    | (exfalso; omega)
    | (
     have hlt : i < l.length := by omega
     obtain ⟨bb, oo, ea, hold⟩ := hE.get hlt
     subst ea
     have hqa := hE.each _ (List.getElem_mem hlt)
     have hql := hL _ (List.getElem_mem hlt)
     have hqf := hF _ (List.getElem_mem hlt)
     generalize hxe : l[i]'hlt = q at *
     have hzs := bkF_size qh qp l.length l i r4
     have hxs := txEnc_size q.t
     refine jnt ?_
     refine jc_seq ?_
     refine jc_true rfl ?_
     refine jc_skip ?_
     refine jq_then ?_
     refine jc_seq ?_
     refine jc_block ?_
     refine jsr ?_
     refine jy (y_indexAddr_slice (off := oo + i * 6) rfl rfl (by omega) (by omega) (by omega)) ?_
     refine jy (y_loadAgg_old rfl rfl hold (by simp)) ?_
     refine jl_m rfl (by decide) rfl (m_alloc) (fun b5 => ?_)
     refine jst ?_
     refine jnt ?_
     refine jc_region ?_
     refine jz ?_
     refine jpc (goes_func rfl) (fun w1 hw1 => txenc_any q.t q.a1 q.c1 q.a2 q.c2 q.a3 q.c3 w1 (hqa.ins.keep hw1) (hqa.outs.keep hw1) (hqa.wins.keep hw1) hql.a hql.b hql.d hqf) ?_
     refine juc (goes_func rfl) (fun w1 hw1 => wblob_any b3 (((l.take i).foldl bkF (bkHead qh qp l.length))) (txEnc q.t) (by omega) w1 (by omega) hw1) ?_
     refine jl_nil ?_
     refine jq_block ?_
     refine jq_then ?_
     refine jc_region ?_
     refine jy (y_add_fits rfl rfl (by simp only [fits]; omega)) ?_
     refine jz ?_
     refine jl_nil ?_
     refine jq_round (i := i) (i + 1) ?_ ?_ ?_
     ·omega
     ·exact ⟨rfl, rfl, rfl, rfl, lk_int rfl (by omega), trivial⟩
     ·exact fun _ h => ⟨by omega, h.pop.cast (by rw [fold_take bkF hlt, hxe]; rfl)⟩
     )
   ·first
    | (exfalso; omega)
    | (
     refine jnt ?_
     refine jc_seq ?_
     refine jc_false rfl ?_
     refine jc_exit ?_
     refine jq_then_exit ?_
     refine jq_then_exit ?_
     refine jq_hit ?_
     refine jq_then ?_
     refine jsr ?_
     refine jpc (goes_func rfl) (fun w1 hw1 => wtext_any b3 (((l.take i).foldl bkF (bkHead qh qp l.length))) w1 (CellAt.of_cells (hw1.get (A := .cells b3 [.string (((l.take i).foldl bkF (bkHead qh qp l.length))).1, .int .i64 (((l.take i).foldl bkF (bkHead qh qp l.length))).2]) mem0) rfl) (CellAt.of_cells (hw1.get (A := .cells b3 [.string (((l.take i).foldl bkF (bkHead qh qp l.length))).1, .int .i64 (((l.take i).foldl bkF (bkHead qh qp l.length))).2]) mem0) rfl)) ?_
     refine jz ?_
     refine jnt ?_
     refine jc_ret ?_
     refine jq_ret1 rfl rfl ?_
     exact fun _ hw => ⟨by unfold bkEnc; rw [if_pos hrb, bkPut_eq, List.take_of_length_le (by omega)], hw.ch⟩
     )
 ·skip
  refine jz ?_
  refine jnt ?_
  refine jc_true rfl ?_
  refine jsr ?_
  refine jz ?_
  refine jnt ?_
  refine jc_ret ?_
  refine jq_then_ret ?_
  refine jq_ret1 rfl rfl ?_
  exact fun _ hw => ⟨by unfold bkEnc; rw [if_neg (by simp_all)], hw.ch⟩

theorem bkenc_any (q : Blq) (w : World) (hl : q.l.length ≤ 1000000) (hE : TxsAt w q.ad q.l) (hL : ∀ x ∈ q.l, Low x.t) (hF : ∀ x ∈ q.l, x.t.Fit) (hh : fits .i64 q.height) : Calls Try.prog 7 #[.agg (Blq.c q).toArray] w fun e w' => e = .returned (.string (bkEnc q.b)) ∧ Ch [] w w' :=
  bkenc_of q.height q.prev q.l q.ad q.cp w hl hE hL hF hh
theorem eqT_any (ad aq : Option Addr) (c d : Nat) (l m : List Txq) (w : World) (hE : TxsAt w ad l) (hQ : TxsAt w aq m) (hl : l.length ≤ 1000000) (hm : m.length ≤ 1000000) (hL : ∀ q ∈ l, Low q.t) (hM : ∀ q ∈ m, Low q.t) :
  Calls Try.prog 34 #[.slice ad l.length c, .slice aq m.length d, .func (.func 35) #[] #[]] w fun e w' => e = .returned (.bool (decide (txsQ l = txsQ m))) ∧ Ch [] w w' := by
 refine calls_of (n := 32) (E := [(0, .slice ad l.length c), (1, .slice aq m.length d), (2, .func (.func 35) #[] #[])]) (W := Hp w [] []) Try.func34 rfl rfl (Nat.le_of_ble_eq_true rfl) rfl (Hp.nil _ _) ?_
 refine jsr ?_
 refine jz ?_
 refine jnt ?_
 refine jc_seq ?_
 refine jsr ?_
 refine jz ?_
 refine jy (y_len_slice rfl) ?_
 refine jz ?_
 refine jy (y_len_slice rfl) ?_
 refine jy (y_neq rfl rfl) ?_
 refine jl_prop (fun h14 => ?_) (fun h14 => ?_)
 ·first
  | (exfalso; omega)
  | (
   refine jnt ?_
   refine jc_true rfl ?_
   refine jsr ?_
   refine jz ?_
   refine jnt ?_
   refine jc_ret ?_
   refine jq_then_ret ?_
   refine jq_ret1 rfl rfl ?_
   exact fun _ hw => ⟨congrArg (fun b => Ending.returned (Value.bool b)) (by symm; rw [decide_eq_false_iff_not]; intro e; have := congrArg List.length e; rw [List.length_map, List.length_map] at this; omega), hw.ch⟩
   )
 ·first
  | (exfalso; omega)
  | (
   refine jnt ?_
   refine jc_false rfl ?_
   refine jc_skip ?_
   refine jq_then ?_
   refine jc_seq ?_
   refine jsr ?_
   refine jz ?_
   refine jy (y_len_slice rfl) ?_
   refine jz ?_
   refine jnt ?_
   refine jc_block ?_
   refine jc_loop (fun (i : Nat) => [(1, .slice aq m.length d), (2, .func (.func 35) #[] #[]), (15, .slice ad l.length c), (16, .int .i64 l.length), (17, .int .i64 (i : Nat))]) (fun (i : Nat) => fun w' => (i ≤ l.length ∧ (txsQ l).take i = (txsQ m).take i) ∧ Hp w [] [] w') (fun (i : Nat) => l.length - i) 0 ?_ ?_ ?_
   ·exact ⟨rfl, rfl, rfl, rfl, rfl, trivial⟩
   ·exact fun _ h => ⟨⟨by omega, rfl⟩, h⟩
   ·intro i
    refine jc_and (fun hi => ?_)
    refine jsr ?_
    refine jy (y_lss rfl rfl) ?_
    refine jl_prop (fun h18 => ?_) (fun h18 => ?_)
    ·first
     | (exfalso; omega)
     | (
      have hlt : i < l.length := by omega
      have hlq : i < m.length := by omega
      obtain ⟨bb, oo, ea, hold⟩ := hE.get hlt
      obtain ⟨bq, oq, eq, holq⟩ := hQ.get hlq
      subst ea
      subst eq
      have hqa := hE.each _ (List.getElem_mem hlt)
      have hql := hL _ (List.getElem_mem hlt)
      have hra := hQ.each _ (List.getElem_mem hlq)
      have hrl := hM _ (List.getElem_mem hlq)
      generalize hxe : l[i]'hlt = x at *
      generalize hye : m[i]'hlq = y at *
      refine jnt ?_
      refine jc_seq ?_
      refine jc_true rfl ?_
      refine jc_skip ?_
      refine jq_then ?_
      refine jc_seq ?_
      refine jc_block ?_
      refine jsr ?_
      refine jz ?_
      refine jy (y_indexAddr_slice (off := oo + i * 6) rfl rfl (by omega) (by omega) (by omega)) ?_
      refine jy (y_loadAgg_old rfl rfl hold (by simp)) ?_
      refine jl_m rfl (by decide) rfl (m_alloc) (fun b8 => ?_)
      refine jz ?_
      refine jst ?_
      refine jnt ?_
      refine jsr ?_
      refine jz ?_
      refine jz ?_
      refine jy (y_indexAddr_slice (off := oq + i * 6) rfl rfl (by omega) (by omega) (by omega)) ?_
      refine jy (y_loadAgg_old rfl rfl holq (by simp)) ?_
      refine jl_m rfl (by decide) rfl (m_alloc) (fun b9 => ?_)
      refine jst ?_
      refine jnt ?_
      refine jsr ?_
      refine jz ?_
      refine jz ?_
      refine jz ?_
      refine jl_pcall rfl (by decide) rfl (goes_value rfl rfl) (fun w1 hw1 => pcall hw1 (cosame_any x.t y.t x.a1 x.c1 x.a2 x.c2 x.a3 x.c3 y.a1 y.c1 y.a2 y.c2 y.a3 y.c3 w1 (hqa.ins.keep hw1) (hqa.outs.keep hw1) (hqa.wins.keep hw1) (hra.ins.keep hw1) (hra.outs.keep hw1) (hra.wins.keep hw1) hql.a hql.b hql.d hrl.a hrl.b hrl.d)) ?_
      refine jl_bool (fun h29 => ?_) (fun h29 => ?_)
      ·skip
       refine jz ?_
       refine jnt ?_
       refine jc_false rfl ?_
       refine jc_skip ?_
       refine jq_block ?_
       refine jq_then ?_
       refine jc_region ?_
       refine jy (y_add_fits rfl rfl (by simp only [fits]; omega)) ?_
       refine jz ?_
       refine jl_nil ?_
       refine jq_round (i := i) (i + 1) ?_ ?_ ?_
       ·omega
       ·exact ⟨rfl, rfl, rfl, rfl, lk_int rfl (by omega), trivial⟩
       ·exact fun _ h => ⟨⟨by omega, eqQ_next hlt hlq hi.2 (by rw [hxe, hye]; first | assumption | simp_all)⟩, h.part .nil⟩
      ·skip
       refine jz ?_
       refine jnt ?_
       refine jc_true rfl ?_
       refine jsr ?_
       refine jz ?_
       refine jnt ?_
       refine jc_ret ?_
       refine jq_block_ret ?_
       refine jq_then_ret ?_
       refine jq_then_ret ?_
       refine jq_block_ret ?_
       refine jq_then_ret ?_
       refine jq_ret1 rfl rfl ?_
       exact fun _ hw => ⟨congrArg (fun b => Ending.returned (Value.bool b)) (by symm; rw [decide_eq_false_iff_not]; intro e; exact eqQ_not hlt hlq e (by rw [hxe, hye]; first | assumption | simp_all)), hw.ch⟩
      )
    ·first
     | (exfalso; omega)
     | (
      refine jnt ?_
      refine jc_seq ?_
      refine jc_false rfl ?_
      refine jc_exit ?_
      refine jq_then_exit ?_
      refine jq_then_exit ?_
      refine jq_hit ?_
      refine jq_then ?_
      refine jsr ?_
      refine jz ?_
      refine jnt ?_
      refine jc_ret ?_
      refine jq_ret1 rfl rfl ?_
      exact fun _ hw => ⟨congrArg (fun b => Ending.returned (Value.bool b)) (by symm; rw [decide_eq_true_eq]; have := hi.2; rwa [List.take_of_length_le (by rw [List.length_map]; omega), List.take_of_length_le (by rw [List.length_map]; omega)] at this), hw.ch⟩
      )
   )

theorem bksame_any (q r : Blq) (w : World) (hl : q.l.length ≤ 1000000) (hm : r.l.length ≤ 1000000) (hE : TxsAt w q.ad q.l) (hR : TxsAt w r.ad r.l) (hL : ∀ x ∈ q.l, Low x.t) (hM : ∀ x ∈ r.l, Low x.t) :
  Calls Try.prog 10 #[.agg (Blq.c q).toArray, .agg (Blq.c r).toArray] w fun e w' => e = .returned (.bool (decide (q.b = r.b))) ∧ Ch [] w w' := by
 refine calls_of (n := 24) (E := [(0, .agg (Blq.c q).toArray), (1, .agg (Blq.c r).toArray)]) (W := Hp w [] []) Try.func10 rfl rfl (Nat.le_of_ble_eq_true rfl) rfl (Hp.nil _ _) ?_
 refine jsr ?_
 refine jl_m rfl (by decide) rfl (m_box rfl rfl) (fun b2 => ?_)
 refine jl_m rfl (by decide) rfl (m_box rfl rfl) (fun b3 => ?_)
 refine jz ?_
 refine jnt ?_
 refine jsr ?_
 refine jz ?_
 refine jz ?_
 refine jz ?_
 refine jz ?_
 refine jy (y_eql rfl rfl) ?_
 refine jl_prop (fun h9 => ?_) (fun h9 => ?_)
 ·first
  | (exfalso; omega)
  | (
   refine jz ?_
   refine jz ?_
   refine jz ?_
   refine jz ?_
   refine jz ?_
   refine jy (y_seql rfl rfl) ?_
   refine jl_prop (fun h15 => ?_) (fun h15 => ?_)
   ·skip
    refine jy (y_pick_true rfl rfl) ?_
    refine jz ?_
    refine jz ?_
    refine jz ?_
    refine jz ?_
    refine jz ?_
    refine jpc (goes_func rfl) (fun w1 hw1 => eqT_any q.ad r.ad q.cp r.cp q.l r.l w1 (hE.keep hw1) (hR.keep hw1) hl hm hL hM) ?_
    refine jy (y_pick_true rfl rfl) ?_
    refine jz ?_
    refine jnt ?_
    refine jc_ret ?_
    refine jq_ret1 rfl rfl ?_
    exact fun _ hw => ⟨congrArg (fun b => Ending.returned (Value.bool b)) (by first | exact bkSame_all (by assumption) (by assumption) | exact bkSame_no (fun e => by first | omega | exact absurd e.1 (by assumption) | exact absurd e.2 (by assumption) | simp_all)), hw.ch⟩
   ·skip
    refine jy (y_pick_true rfl rfl) ?_
    refine jz ?_
    refine jsk ?_
    refine jsk ?_
    refine jsk ?_
    refine jsk ?_
    refine jsk ?_
    refine jy (y_pick_false rfl rfl) ?_
    refine jz ?_
    refine jnt ?_
    refine jc_ret ?_
    refine jq_ret1 rfl rfl ?_
    exact fun _ hw => ⟨congrArg (fun b => Ending.returned (Value.bool b)) (by first | exact bkSame_all (by assumption) (by assumption) | exact bkSame_no (fun e => by first | omega | exact absurd e.1 (by assumption) | exact absurd e.2 (by assumption) | simp_all)), hw.ch⟩
   )
 ·first
  | (exfalso; omega)
  | (
   refine jz ?_
   refine jsk ?_
   refine jsk ?_
   refine jsk ?_
   refine jsk ?_
   refine jsk ?_
   refine jy (y_pick_false rfl rfl) ?_
   refine jz ?_
   refine jsk ?_
   refine jsk ?_
   refine jsk ?_
   refine jsk ?_
   refine jsk ?_
   refine jy (y_pick_false rfl rfl) ?_
   refine jz ?_
   refine jnt ?_
   refine jc_ret ?_
   refine jq_ret1 rfl rfl ?_
   exact fun _ hw => ⟨congrArg (fun b => Ending.returned (Value.bool b)) (by first | exact bkSame_all (by assumption) (by assumption) | exact bkSame_no (fun e => by first | omega | exact absurd e.1 (by assumption) | exact absurd e.2 (by assumption) | simp_all)), hw.ch⟩
   )

end Go.Proofs.Ytomhcibbalhgkaa