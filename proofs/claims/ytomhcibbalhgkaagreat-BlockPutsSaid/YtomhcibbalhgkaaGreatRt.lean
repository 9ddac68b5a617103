/- The walks of the document's answer for blocks, and of BlockPuts. Written by program (walk.py) out of a table of contracts and invariants. -/
import Derived.Test.YtomhcibbalhgkaaGreatCi
import Derived.Test.YtomhcibbalhgkaaGreatMrtd
import Derived.Test.YtomhcibbalhgkaaGreatJv
import Derived.Test.YtomhcibbalhgkaaGreatJu
import Derived.Test.YtomhcibbalhgkaaGreatJr
import Derived.Test.YtomhcibbalhgkaaGreatRp
import Derived.Test.YtomhcibbalhgkaaGreatMrtb
namespace Go.Proofs.YtomhcibbalhgkaaGreat
open Go.RowKit
set_option maxRecDepth 100000
set_option maxHeartbeats 2000000
set_option linter.unusedVariables false
set_option linter.unusedSimpArgs false
attribute [local irreducible] Yields Makes Writes
theorem all3 {a b d : ByteArray} {n : Nat} (ha : a.size ≤ n) (hb : b.size ≤ n) (hd : d.size ≤ n) : ∀ p ∈ [a, b, d], p.size ≤ n := by
  intro p hp
  simp only [List.mem_cons, List.not_mem_nil, or_false] at hp
  rcases hp with rfl | rfl | rfl <;> assumption
def oddT (q : Txq) : Bool := !txRight q.t
theorem bkRight_bad {q : Blq} (h : ¬ (1 ≤ q.height ∧ q.height ≤ 4294967295 ∧ q.prev.size = 16 ∧ q.l.length ≤ 8)) : false = bkRight q.b := by
  symm
  rw [Bool.eq_false_iff]
  intro hr
  obtain ⟨h1, h2, h3, h4, _⟩ := bkRight_iff.1 hr
  rw [List.length_map] at h4
  exact h ⟨h1, h2, h3, h4⟩
theorem bkRight_all {q : Blq} (h : 1 ≤ q.height ∧ q.height ≤ 4294967295 ∧ q.prev.size = 16 ∧ q.l.length ≤ 8) : (!q.l.any oddT) = bkRight q.b := by
  rw [Bool.eq_iff_iff, bkRight_iff, Bool.not_eq_true', List.any_eq_false]
  show _ ↔ 1 ≤ q.height ∧ q.height ≤ 4294967295 ∧ q.prev.size = 16 ∧ (txsQ q.l).length ≤ 8 ∧ ∀ t ∈ txsQ q.l, txRight t = true
  rw [List.length_map]
  refine ⟨fun h2 => ⟨h.1, h.2.1, h.2.2.1, h.2.2.2, fun t ht => ?_⟩, fun h2 x hx => ?_⟩
  · obtain ⟨x, hx, rfl⟩ := List.mem_map.1 ht
    have := h2 x hx
    simpa [oddT] using this
  · have := h2.2.2.2.2 x.t (List.mem_map.2 ⟨x, hx, rfl⟩)
    simp [oddT, this]
theorem eqQ_next {l m : List Txq} {i : Nat} (h : i < l.length) (h2 : i < m.length) (e : (txsQ l).take i = (txsQ m).take i) (ex : l[i].t = m[i].t) : (txsQ l).take (i + 1) = (txsQ m).take (i + 1) := by
  rw [List.take_succ_eq_append_getElem (by rw [List.length_map]; exact h), List.take_succ_eq_append_getElem (by rw [List.length_map]; exact h2), e, List.getElem_map, List.getElem_map, ex]
theorem eqQ_not {l m : List Txq} {i : Nat} (h : i < l.length) (h2 : i < m.length) (e : txsQ l = txsQ m) : ¬ l[i].t ≠ m[i].t := fun hn => hn (by
  have h3 : (txsQ l)[i]? = (txsQ m)[i]? := by rw [e]
  rw [List.getElem?_map, List.getElem?_map, List.getElem?_eq_getElem h, List.getElem?_eq_getElem h2] at h3
  simpa using h3)
theorem blk_eq {a b : Blk} : a = b ↔ a.height = b.height ∧ a.prev = b.prev ∧ a.txs = b.txs := by
  cases a; cases b; simp
theorem bkSame_all {q r : Blq} (h1 : q.height = r.height) (h2 : q.prev = r.prev) : decide (txsQ q.l = txsQ r.l) = decide (q.b = r.b) := by
  rw [decide_eq_decide, blk_eq]
  exact ⟨fun h => ⟨h1, h2, h⟩, fun h => h.2.2⟩
theorem bkSame_no {q r : Blq} (h : ¬ (q.height = r.height ∧ q.prev = r.prev)) : false = decide (q.b = r.b) := by
  symm
  rw [decide_eq_false_iff_not, blk_eq]
  exact fun e => h ⟨e.1, e.2.1⟩
def strBlock : ByteArray := ⟨#[98, 108, 111, 99, 107]⟩
def strFirst : ByteArray := ⟨#[102, 105, 114, 115, 116]⟩
def bkID (b : Blk) : ByteArray := if bkRight b = true then tagS strBlock [putS b.height, b.prev, catB (b.txs.map txID)] else ⟨#[]⟩
def firstS (o : Oup) : ByteArray := putS o.amount ++ o.key
def bkFirst (l : List Oup) : ByteArray := tagS strFirst [catB (l.map firstS)]
theorem txID_le (t : Trx) : (txID t).size ≤ 16 := by
  unfold txID
  split
  · exact Nat.zero_le _
  · rw [tagS_size]; exact Nat.le_refl _
theorem cat_take {α : Type} {f : α → ByteArray} {l : List α} {i : Nat} (h : i < l.length) : catB ((l.take (i + 1)).map f) = catB ((l.take i).map f) ++ f l[i] := by
  rw [List.take_succ_eq_append_getElem h, List.map_append, catB_append]
  show _ ++ (f l[i] ++ (⟨#[]⟩ : ByteArray)) = _
  rw [show f l[i] ++ (⟨#[]⟩ : ByteArray) = f l[i] from ByteArray.append_empty]
theorem cat_le {α : Type} {f : α → ByteArray} {n : Nat} {l : List α} (h : ∀ x ∈ l, (f x).size ≤ n) (i : Nat) (hi : i ≤ l.length) : (catB ((l.take i).map f)).size ≤ n * i := by
  have := cat_size (f := f) (n := n) (l := l.take i) fun x hx => h x (List.mem_of_mem_take hx)
  rw [List.length_take, Nat.min_eq_left hi] at this
  exact this
def bkHead (h : Int) (p : ByteArray) (n : Nat) : WS := wByte (wHash (wNum (wByte w0 66) h) p) n
def bkF (w : WS) (q : Txq) : WS := wBlob w (txEnc q.t)
theorem bkPut_eq (q : Blq) : bkPut q.b = q.l.foldl bkF (bkHead q.height q.prev q.l.length) := by
  show (txsQ q.l).foldl _ (wByte (wHash (wNum (wByte w0 66) q.height) q.prev) (txsQ q.l).length) = _
  rw [List.foldl_map, List.length_map]
  rfl
theorem bkHead_size (h : Int) (p : ByteArray) (n : Nat) : (bkHead h p n).1.size ≤ 100 := by
  unfold bkHead
  refine wle0 ?_
  apply wle_byte; apply wle_hash; apply wle_num; apply wle_byte
  have : w0.1.size = 0 := rfl
  omega
theorem bkF_size (h : Int) (p : ByteArray) (n : Nat) (l : List Txq) (i : Nat) (hl : l.length ≤ 8) : ((l.take i).foldl bkF (bkHead h p n)).1.size ≤ 40000 := by
  refine wle0 (wle_fold (n := 4098) (fun w x a K h => wle_blob h) _ ?_)
  have := bkHead_size h p n
  rw [List.length_take]
  omega

theorem oddt_any (q : Txq) (w : World) (hq : q.At w) (hL : Low q.t) :
  Calls Tryz.prog 22 #[.agg (Txq.c q).toArray] w fun e w' => e = .returned (.bool (oddT q)) ∧ Ch [] w w' := by
 refine calls_of (n := 6) (E := [(0, .agg (Txq.c q).toArray)]) (W := Hp w [] []) Tryz.func22 rfl rfl (Nat.le_of_ble_eq_true rfl) rfl (Hp.nil _ _) ?_
 refine jsr ?_
 refine jl_m rfl (by decide) rfl (m_box rfl rfl) (fun b1 => ?_)
 refine jz ?_
 refine jnt ?_
 refine jsr ?_
 refine jz ?_
 refine jpc (goes_func rfl) (fun w1 hw1 => txright_any q.t q.a1 q.c1 q.a2 q.c2 q.a3 q.c3 w1 (hq.ins.keep hw1) (hq.outs.keep hw1) (hq.wins.keep hw1) hL.a hL.b hL.d) ?_
 refine jz ?_
 refine jz ?_
 refine jnt ?_
 refine jc_ret ?_
 refine jq_ret1 rfl rfl ?_
 exact fun _ hw => ⟨rfl, hw.ch⟩

theorem idxT_any (ad : Option Addr) (l : List Txq) (c : Nat) (w : World) (hl : l.length ≤ 1000000) (hE : TxsAt w ad l) (hL : ∀ q ∈ l, Low q.t) :
  Calls Tryz.prog 60 #[.slice ad l.length c, .func (.func 22) #[] #[]] w fun e w' => e = .returned (.int .i64 (idxF oddT l)) ∧ Ch [] w w' := by
 refine calls_of (n := 19) (E := [(0, .slice ad l.length c), (1, .func (.func 22) #[] #[])]) (W := Hp w [] []) Tryz.func60 rfl rfl (Nat.le_of_ble_eq_true rfl) rfl (Hp.nil _ _) ?_
 refine jsr ?_
 refine jz ?_
 refine jnt ?_
 refine jc_seq ?_
 refine jsr ?_
 refine jz ?_
 refine jy (y_len_slice rfl) ?_
 refine jz ?_
 refine jnt ?_
 refine jc_block ?_
 refine jc_loop (fun (i : Nat) => [(0, .slice ad l.length c), (1, .func (.func 22) #[] #[]), (7, .int .i64 l.length), (8, .int .i64 (i : Nat))]) (fun (i : Nat) => fun w' => (i ≤ l.length ∧ ∀ j z, j < i → l[j]? = some z → oddT z = false) ∧ Hp w [] [] w') (fun (i : Nat) => l.length - i) 0 ?_ ?_ ?_
 ·exact ⟨rfl, rfl, rfl, rfl, trivial⟩
 ·exact fun _ h => ⟨⟨by omega, fun j z hj _ => absurd hj (by omega)⟩, h⟩
 ·intro i
  refine jc_and (fun hi2 => ?_)
  obtain ⟨hi, hno⟩ := hi2
  refine jsr ?_
  refine jy (y_lss rfl rfl) ?_
  refine jl_prop (fun h9 => ?_) (fun h9 => ?_)
  ·first
   | (exfalso; omega)
   | (
    have hlt : i < l.length := by omega
    obtain ⟨bb, oo, ea, hold⟩ := hE.get hlt
    subst ea
    have hqa := hE.each _ (List.getElem_mem hlt)
    have hql := hL _ (List.getElem_mem hlt)
    generalize hxe : l[i]'hlt = q at *
    refine jnt ?_
    refine jc_seq ?_
    refine jc_true rfl ?_
    refine jc_skip ?_
    refine jq_then ?_
    refine jc_seq ?_
    refine jc_block ?_
    refine jsr ?_
    refine jz ?_
    refine jz ?_
    refine jnt ?_
    refine jsr ?_
    refine jz ?_
    refine jz ?_
    refine jz ?_
    refine jy (y_indexAddr_slice (off := oo + i * 6) rfl rfl (by omega) (by omega) (by omega)) ?_
    refine jy (y_loadAgg_old rfl rfl hold (by simp)) ?_
    refine jl_pcall rfl (by decide) rfl (goes_value rfl rfl) (fun w1 hw1 => pcall hw1 (oddt_any q w1 (hqa.keep hw1) hql)) ?_
    refine jl_bool (fun h16 => ?_) (fun h16 => ?_)
    ·skip
     refine jnt ?_
     refine jc_true rfl ?_
     refine jsr ?_
     refine jz ?_
     refine jz ?_
     refine jnt ?_
     refine jc_ret ?_
     refine jq_block_ret ?_
     refine jq_then_ret ?_
     refine jq_then_ret ?_
     refine jq_block_ret ?_
     refine jq_then_ret ?_
     refine jq_ret1 rfl rfl ?_
     exact fun _ hw => ⟨by rw [idx_hit hno (by rw [List.getElem?_eq_getElem hlt, hxe]) h16], hw.ch⟩
    ·skip
     refine jnt ?_
     refine jc_false rfl ?_
     refine jc_skip ?_
     refine jq_block ?_
     refine jq_then ?_
     refine jc_region ?_
     refine jy (y_add_fits rfl rfl (by simp only [fits]; omega)) ?_
     refine jz ?_
     refine jl_nil ?_
     refine jq_round (i := i) (i + 1) ?_ ?_ ?_
     ·omega
     ·exact ⟨rfl, rfl, rfl, lk_int rfl (by omega), trivial⟩
     ·exact fun _ h => ⟨⟨by omega, fun j z hj hz => (Nat.lt_succ_iff_lt_or_eq.1 hj).elim (fun h2 => hno j z h2 hz) (fun e => by subst e; rw [List.getElem?_eq_getElem hlt, hxe] at hz; cases hz; exact h16)⟩, h⟩
    )
  ·first
   | (exfalso; omega)
   | (
    refine jnt ?_
    refine jc_seq ?_
    refine jc_false rfl ?_
    refine jc_exit ?_
    refine jq_then_exit ?_
    refine jq_then_exit ?_
    refine jq_hit ?_
    refine jq_then ?_
    refine jsr ?_
    refine jz ?_
    refine jnt ?_
    refine jc_ret ?_
    refine jq_ret1 rfl rfl ?_
    exact fun _ hw => ⟨by rw [idx_none (fun j z hj => hno j z (by omega))], hw.ch⟩
    )

theorem hasT_any (ad : Option Addr) (l : List Txq) (c : Nat) (w : World) (hl : l.length ≤ 1000000) (hE : TxsAt w ad l) (hL : ∀ q ∈ l, Low q.t) :
  Calls Tryz.prog 24 #[.slice ad l.length c, .func (.func 22) #[] #[]] w fun e w' => e = .returned (.bool (l.any oddT)) ∧ Ch [] w w' := by
 refine calls_of (n := 9) (E := [(0, .slice ad l.length c), (1, .func (.func 22) #[] #[])]) (W := Hp w [] []) Tryz.func24 rfl rfl (Nat.le_of_ble_eq_true rfl) rfl (Hp.nil _ _) ?_
 refine jsr ?_
 refine jz ?_
 refine jnt ?_
 refine jsr ?_
 refine jz ?_
 refine jz ?_
 refine jpc (goes_func rfl) (fun w1 hw1 => idxT_any ad l c w1 hl (hE.keep hw1) hL) ?_
 refine jy (y_geq rfl rfl) ?_
 refine jl_as (u := .bool (l.any oddT)) (congrArg Value.bool (idx_any oddT l)) ?_
 refine jz ?_
 refine jnt ?_
 refine jc_ret ?_
 refine jq_ret1 rfl rfl ?_
 exact fun _ hw => ⟨rfl, hw.ch⟩

theorem bkright_any (q : Blq) (w : World) (hl : q.l.length ≤ 1000000) (hE : TxsAt w q.ad q.l) (hL : ∀ x ∈ q.l, Low x.t) :
  Calls Tryz.prog 6 #[.agg (Blq.c q).toArray] w fun e w' => e = .returned (.bool (bkRight q.b)) ∧ Ch [] w w' := by
 refine calls_of (n := 31) (E := [(0, .agg (Blq.c q).toArray)]) (W := Hp w [] []) Tryz.func6 rfl rfl (Nat.le_of_ble_eq_true rfl) rfl (Hp.nil _ _) ?_
 refine jsr ?_
 refine jl_m rfl (by decide) rfl (m_box rfl rfl) (fun b1 => ?_)
 refine jz ?_
 refine jnt ?_
 refine jsr ?_
 refine jz ?_
 refine jnt ?_
 refine jsr ?_
 refine jz ?_
 refine jz ?_
 refine jy (y_geq rfl rfl) ?_
 refine jl_prop (fun h6 => ?_) (fun h6 => ?_)
 ·first
  | (exfalso; omega)
  | (
   refine jz ?_
   refine jz ?_
   refine jz ?_
   refine jy (y_leq rfl rfl) ?_
   refine jl_prop (fun h10 => ?_) (fun h10 => ?_)
   ·first
    | (exfalso; omega)
    | (
     refine jy (y_pick_true rfl rfl) ?_
     refine jz ?_
     refine jz ?_
     refine jz ?_
     refine jy (y_len_str rfl) ?_
     refine jy (y_eql rfl rfl) ?_
     refine jl_prop (fun h16 => ?_) (fun h16 => ?_)
     ·first
      | (exfalso; omega)
      | (
       refine jy (y_pick_true rfl rfl) ?_
       refine jz ?_
       refine jz ?_
       refine jz ?_
       refine jy (y_len_slice rfl) ?_
       refine jy (y_leq rfl rfl) ?_
       refine jl_prop (fun h22 => ?_) (fun h22 => ?_)
       ·first
        | (exfalso; omega)
        | (
         refine jy (y_pick_true rfl rfl) ?_
         refine jz ?_
         refine jz ?_
         refine jz ?_
         refine jz ?_
         refine jpc (goes_func rfl) (fun w1 hw1 => hasT_any q.ad q.l q.cp w1 hl (hE.keep hw1) hL) ?_
         refine jz ?_
         refine jy (y_pick_true rfl rfl) ?_
         refine jz ?_
         refine jnt ?_
         refine jc_ret ?_
         refine jq_ret1 rfl rfl ?_
         exact fun _ hw => ⟨congrArg (fun b => Ending.returned (Value.bool b)) (by first | exact bkRight_all ⟨by omega, by omega, by omega, by omega⟩ | exact bkRight_bad (by omega)), hw.ch⟩
         )
       ·first
        | (exfalso; omega)
        | (
         refine jy (y_pick_true rfl rfl) ?_
         refine jz ?_
         refine jsk ?_
         refine jsk ?_
         refine jsk ?_
         refine jsk ?_
         refine jsk ?_
         refine jy (y_pick_false rfl rfl) ?_
         refine jz ?_
         refine jnt ?_
         refine jc_ret ?_
         refine jq_ret1 rfl rfl ?_
         exact fun _ hw => ⟨congrArg (fun b => Ending.returned (Value.bool b)) (by first | exact bkRight_all ⟨by omega, by omega, by omega, by omega⟩ | exact bkRight_bad (by omega)), hw.ch⟩
         )
       )
     ·first
      | (exfalso; omega)
      | (
       refine jy (y_pick_true rfl rfl) ?_
       refine jz ?_
       refine jsk ?_
       refine jsk ?_
       refine jsk ?_
       refine jsk ?_
       refine jy (y_pick_false rfl rfl) ?_
       refine jz ?_
       refine jsk ?_
       refine jsk ?_
       refine jsk ?_
       refine jsk ?_
       refine jsk ?_
       refine jy (y_pick_false rfl rfl) ?_
       refine jz ?_
       refine jnt ?_
       refine jc_ret ?_
       refine jq_ret1 rfl rfl ?_
       exact fun _ hw => ⟨congrArg (fun b => Ending.returned (Value.bool b)) (by first | exact bkRight_all ⟨by omega, by omega, by omega, by omega⟩ | exact bkRight_bad (by omega)), hw.ch⟩
       )
     )
   ·first
    | (exfalso; omega)
    | (
     refine jy (y_pick_true rfl rfl) ?_
     refine jz ?_
     refine jsk ?_
     refine jsk ?_
     refine jsk ?_
     refine jsk ?_
     refine jy (y_pick_false rfl rfl) ?_
     refine jz ?_
     refine jsk ?_
     refine jsk ?_
     refine jsk ?_
     refine jsk ?_
     refine jy (y_pick_false rfl rfl) ?_
     refine jz ?_
     refine jsk ?_
     refine jsk ?_
     refine jsk ?_
     refine jsk ?_
     refine jsk ?_
     refine jy (y_pick_false rfl rfl) ?_
     refine jz ?_
     refine jnt ?_
     refine jc_ret ?_
     refine jq_ret1 rfl rfl ?_
     exact fun _ hw => ⟨congrArg (fun b => Ending.returned (Value.bool b)) (by first | exact bkRight_all ⟨by omega, by omega, by omega, by omega⟩ | exact bkRight_bad (by omega)), hw.ch⟩
     )
   )
 ·first
  | (exfalso; omega)
  | (
   refine jz ?_
   refine jsk ?_
   refine jsk ?_
   refine jsk ?_
   refine jy (y_pick_false rfl rfl) ?_
   refine jz ?_
   refine jsk ?_
   refine jsk ?_
   refine jsk ?_
   refine jsk ?_
   refine jy (y_pick_false rfl rfl) ?_
   refine jz ?_
   refine jsk ?_
   refine jsk ?_
   refine jsk ?_
   refine jsk ?_
   refine jy (y_pick_false rfl rfl) ?_
   refine jz ?_
   refine jsk ?_
   refine jsk ?_
   refine jsk ?_
   refine jsk ?_
   refine jsk ?_
   refine jy (y_pick_false rfl rfl) ?_
   refine jz ?_
   refine jnt ?_
   refine jc_ret ?_
   refine jq_ret1 rfl rfl ?_
   exact fun _ hw => ⟨congrArg (fun b => Ending.returned (Value.bool b)) (by first | exact bkRight_all ⟨by omega, by omega, by omega, by omega⟩ | exact bkRight_bad (by omega)), hw.ch⟩
   )

theorem bhigh_any (n : Int) (w : World) (hn : fits .i64 n) :
  Calls Tryz.prog 29 #[.int .i64 n] w fun e w' => e = .returned (.int .u64 (cntN n)) ∧ Ch [] w w' := by
 refine calls_of (n := 11) (E := [(0, .int .i64 n)]) (W := Hp w [] []) Tryz.func29 rfl rfl (Nat.le_of_ble_eq_true rfl) rfl (Hp.nil _ _) ?_
 refine jsr ?_
 refine jz ?_
 refine jnt ?_
 refine jsr ?_
 refine jz ?_
 refine jpc (goes_func rfl) (fun w1 hw1 => of_any n w1 hn) ?_
 refine jz ?_
 refine jz ?_
 refine jz ?_
 refine jz ?_
 refine jz ?_
 refine jnt ?_
 refine jsr ?_
 refine jz ?_
 refine jz ?_
 refine jnt ?_
 refine jc_ret ?_
 refine jq_ret1 rfl rfl ?_
 exact fun _ hw => ⟨rfl, hw.ch⟩

theorem joinT_any (ad : Option Addr) (l : List Txq) (c : Nat) (w : World) (hl : l.length ≤ 1000000) (hE : TxsAt w ad l) (hL : ∀ q ∈ l, Low q.t) (hF : ∀ q ∈ l, q.t.Fit) :
  Calls Tryz.prog 30 #[.slice ad l.length c, .func (.func 31) #[] #[]] w fun e w' => e = .returned (.string (catB (l.map fun q => txID q.t))) ∧ Ch [] w w' := by
 refine calls_of (n := 21) (E := [(0, .slice ad l.length c), (1, .func (.func 31) #[] #[])]) (W := Hp w [] []) Tryz.func30 rfl rfl (Nat.le_of_ble_eq_true rfl) rfl (Hp.nil _ _) ?_
 refine jsr ?_
 refine jz ?_
 refine jnt ?_
 refine jsr ?_
 refine jz ?_
 refine jnt ?_
 refine jc_seq ?_
 refine jsr ?_
 refine jz ?_
 refine jy (y_len_slice rfl) ?_
 refine jz ?_
 refine jnt ?_
 refine jc_block ?_
 refine jc_loop (fun (i : Nat) => [(1, .func (.func 31) #[] #[]), (5, .string (catB ((l.take i).map fun q => txID q.t))), (8, .slice ad l.length c), (9, .int .i64 l.length), (10, .int .i64 (i : Nat))]) (fun (i : Nat) => fun w' => i ≤ l.length ∧ Hp w [] [] w') (fun (i : Nat) => l.length - i) 0 ?_ ?_ ?_
 ·exact ⟨rfl, rfl, rfl, rfl, rfl, trivial⟩
 ·exact fun _ h => ⟨by omega, h⟩
 ·intro i
  refine jc_and (fun hi => ?_)
  refine jsr ?_
  refine jy (y_lss rfl rfl) ?_
  refine jl_prop (fun h11 => ?_) (fun h11 => ?_)
  ·first
   | (exfalso; omega)
   | (
    have hlt : i < l.length := by omega
    obtain ⟨bb, oo, ea, hold⟩ := hE.get hlt
    subst ea
    have hqa := hE.each _ (List.getElem_mem hlt)
    have hql := hL _ (List.getElem_mem hlt)
    have hqf := hF _ (List.getElem_mem hlt)
    generalize hxe : l[i]'hlt = q at *
    have hcs := cat_le (f := fun q : Txq => txID q.t) (n := 16) (l := l) (fun q _ => txID_le q.t) i (by omega)
    have hts := txID_le q.t
    have hnx := cat_take (f := fun q : Txq => txID q.t) hlt
    rw [hxe] at hnx
    refine jnt ?_
    refine jc_seq ?_
    refine jc_true rfl ?_
    refine jc_skip ?_
    refine jq_then ?_
    refine jc_seq ?_
    refine jc_block ?_
    refine jsr ?_
    refine jy (y_indexAddr_slice (off := oo + i * 6) rfl rfl (by omega) (by omega) (by omega)) ?_
    refine jy (y_loadAgg_old rfl rfl hold (by simp)) ?_
    refine jl_m rfl (by decide) rfl (m_alloc) (fun b7 => ?_)
    refine jst ?_
    refine jnt ?_
    refine jc_region ?_
    refine jz ?_
    refine jz ?_
    refine jz ?_
    refine jl_pcall rfl (by decide) rfl (goes_value rfl rfl) (fun w1 hw1 => pcall hw1 (txid_any q.t q.a1 q.c1 q.a2 q.c2 q.a3 q.c3 w1 (hqa.ins.keep hw1) (hqa.outs.keep hw1) (hqa.wins.keep hw1) hql.a hql.b hql.d hqf)) ?_
    refine jy (y_concat rfl rfl (by omega)) ?_
    refine jl_as (u := .string (catB ((l.take (i + 1)).map fun q => txID q.t))) (congrArg Value.string hnx.symm) ?_
    refine jz ?_
    refine jl_nil ?_
    refine jq_block ?_
    refine jq_then ?_
    refine jc_region ?_
    refine jy (y_add_fits rfl rfl (by simp only [fits]; omega)) ?_
    refine jz ?_
    refine jl_nil ?_
    refine jq_round (i := i) (i + 1) ?_ ?_ ?_
    ·omega
    ·exact ⟨rfl, rfl, rfl, rfl, lk_int rfl (by omega), trivial⟩
    ·exact fun _ h => ⟨by omega, h.part .nil⟩
    )
  ·first
   | (exfalso; omega)
   | (
    refine jnt ?_
    refine jc_seq ?_
    refine jc_false rfl ?_
    refine jc_exit ?_
    refine jq_then_exit ?_
    refine jq_then_exit ?_
    refine jq_hit ?_
    refine jq_then ?_
    refine jsr ?_
    refine jz ?_
    refine jz ?_
    refine jnt ?_
    refine jc_ret ?_
    refine jq_ret1 rfl rfl ?_
    exact fun _ hw => ⟨by rw [List.take_of_length_le (by omega)], hw.ch⟩
    )

theorem first1_any (o : Oup) (w : World) (hf : o.Fit) (hk : o.key.size ≤ 1000000) :
  Calls Tryz.prog 51 #[.agg (Oup.c o).toArray] w fun e w' => e = .returned (.string (firstS o)) ∧ Ch [] w w' := by
 refine calls_of (n := 9) (E := [(0, .agg (Oup.c o).toArray)]) (W := Hp w [] []) Tryz.func51 rfl rfl (Nat.le_of_ble_eq_true rfl) rfl (Hp.nil _ _) ?_
 refine jsr ?_
 refine jl_m rfl (by decide) rfl (m_box rfl rfl) (fun b1 => ?_)
 refine jz ?_
 refine jnt ?_
 refine jc_seq ?_
 refine jc_draw (by kernel_rfl) (fun _ h => h.drew) ?_
 refine juz ?_
 refine juz ?_
 refine ju_call rfl (by decide) rfl (goes_func rfl) (fun w1 hw1 => pcall hw1 (put_any o.amount w1 hf.amount)) ?_
 refine juz ?_
 refine juz ?_
 refine juy (y_concat rfl rfl (by (rw [putS_size]; omega))) ?_
 refine juz ?_
 refine ju_nil ?_
 refine jq_then ?_
 refine jc_ret ?_
 refine jq_ret1 rfl rfl ?_
 exact fun _ hw => ⟨rfl, hw.ch⟩

theorem joinO_any (ad : Option Addr) (l : List Oup) (c : Nat) (w : World) (hl : l.length ≤ 100) (hE : ElAt w ad 9 (l.map Oup.c)) (hF : ∀ o ∈ l, o.Fit) (hK : ∀ o ∈ l, o.key.size ≤ 1000) :
  Calls Tryz.prog 50 #[.slice ad l.length c, .func (.func 51) #[] #[]] w fun e w' => e = .returned (.string (catB (l.map firstS))) ∧ Ch [] w w' := by
 refine calls_of (n := 21) (E := [(0, .slice ad l.length c), (1, .func (.func 51) #[] #[])]) (W := Hp w [] []) Tryz.func50 rfl rfl (Nat.le_of_ble_eq_true rfl) rfl (Hp.nil _ _) ?_
 refine jsr ?_
 refine jz ?_
 refine jnt ?_
 refine jsr ?_
 refine jz ?_
 refine jnt ?_
 refine jc_seq ?_
 refine jsr ?_
 refine jz ?_
 refine jy (y_len_slice rfl) ?_
 refine jz ?_
 refine jnt ?_
 refine jc_block ?_
 refine jc_loop (fun (i : Nat) => [(1, .func (.func 51) #[] #[]), (5, .string (catB ((l.take i).map firstS))), (8, .slice ad l.length c), (9, .int .i64 l.length), (10, .int .i64 (i : Nat))]) (fun (i : Nat) => fun w' => i ≤ l.length ∧ Hp w [] [] w') (fun (i : Nat) => l.length - i) 0 ?_ ?_ ?_
 ·exact ⟨rfl, rfl, rfl, rfl, rfl, trivial⟩
 ·exact fun _ h => ⟨by omega, h⟩
 ·intro i
  refine jc_and (fun hi => ?_)
  refine jsr ?_
  refine jy (y_lss rfl rfl) ?_
  refine jl_prop (fun h11 => ?_) (fun h11 => ?_)
  ·first
   | (exfalso; omega)
   | (
    have hlt : i < l.length := by omega
    obtain ⟨bb, oo, ea, hold⟩ := hE.get hlt
    subst ea
    have hqf := hF _ (List.getElem_mem hlt)
    have hqk := hK _ (List.getElem_mem hlt)
    have hcs := cat_le (f := firstS) (n := 1008) (l := l) (fun q hq => by unfold firstS; rw [ByteArray.size_append, putS_size]; have := hK q hq; omega) i (by omega)
    have hnx := cat_take (f := firstS) hlt
    generalize hxe : l[i]'hlt = q at *
    have hts : (firstS q).size ≤ 1008 := by unfold firstS; rw [ByteArray.size_append, putS_size]; omega
    refine jnt ?_
    refine jc_seq ?_
    refine jc_true rfl ?_
    refine jc_skip ?_
    refine jq_then ?_
    refine jc_seq ?_
    refine jc_block ?_
    refine jsr ?_
    refine jy (y_indexAddr_slice (off := oo + i * 9) rfl rfl (by omega) (by omega) (by omega)) ?_
    refine jy (y_loadAgg_old rfl rfl hold (by simp)) ?_
    refine jl_m rfl (by decide) rfl (m_alloc) (fun b7 => ?_)
    refine jst ?_
    refine jnt ?_
    refine jc_region ?_
    refine jz ?_
    refine jz ?_
    refine jz ?_
    refine jl_pcall rfl (by decide) rfl (goes_value rfl rfl) (fun w1 hw1 => pcall hw1 (first1_any q w1 hqf (by omega))) ?_
    refine jy (y_concat rfl rfl (by omega)) ?_
    refine jl_as (u := .string (catB ((l.take (i + 1)).map firstS))) (congrArg Value.string hnx.symm) ?_
    refine jz ?_
    refine jl_nil ?_
    refine jq_block ?_
    refine jq_then ?_
    refine jc_region ?_
    refine jy (y_add_fits rfl rfl (by simp only [fits]; omega)) ?_
    refine jz ?_
    refine jl_nil ?_
    refine jq_round (i := i) (i + 1) ?_ ?_ ?_
    ·omega
    ·exact ⟨rfl, rfl, rfl, rfl, lk_int rfl (by omega), trivial⟩
    ·exact fun _ h => ⟨by omega, h.part .nil⟩
    )
  ·first
   | (exfalso; omega)
   | (
    refine jnt ?_
    refine jc_seq ?_
    refine jc_false rfl ?_
    refine jc_exit ?_
    refine jq_then_exit ?_
    refine jq_then_exit ?_
    refine jq_hit ?_
    refine jq_then ?_
    refine jsr ?_
    refine jz ?_
    refine jz ?_
    refine jnt ?_
    refine jc_ret ?_
    refine jq_ret1 rfl rfl ?_
    exact fun _ hw => ⟨by rw [List.take_of_length_le (by omega)], hw.ch⟩
    )

theorem bfirst_any (ad : Option Addr) (l : List Oup) (c : Nat) (w : World) (hl : l.length ≤ 100) (hE : ElAt w ad 9 (l.map Oup.c)) (hF : ∀ o ∈ l, o.Fit) (hK : ∀ o ∈ l, o.key.size ≤ 1000) :
  Calls Tryz.prog 15 #[.slice ad l.length c] w fun e w' => e = .returned (.string (bkFirst l)) ∧ Ch [] w w' := by
 have hcs := cat_size (f := firstS) (n := 1008) (l := l) (fun q hq => by unfold firstS; rw [ByteArray.size_append, putS_size]; have := hK q hq; omega)
 refine calls_of (n := 7) (E := [(0, .slice ad l.length c)]) (W := Hp w [] []) Tryz.func15 rfl rfl (Nat.le_of_ble_eq_true rfl) rfl (Hp.nil _ _) ?_
 refine jsr ?_
 refine jz ?_
 refine jnt ?_
 refine jsr ?_
 refine jz ?_
 refine jpc (goes_func rfl) (fun w1 hw1 => joinO_any ad l c w1 hl (hE.keep hw1) hF hK) ?_
 refine jl_m rfl (by decide) rfl (m_buildSlice (by decide) (Built.cell rfl rfl rfl (by repeat constructor) Built.nil)) (fun b5 => ?_)
 refine jpc (goes_func rfl) (fun w1 hw1 => tag_any strFirst (some ⟨b5, 0, none⟩) 1 [catB (l.map firstS)] w1 (by decide) (by simp) (all1 (by omega)) (Strs.of_row (hw1.get mem0))) ?_
 refine jz ?_
 refine jnt ?_
 refine jc_ret ?_
 refine jq_ret1 rfl rfl ?_
 exact fun _ hw => ⟨rfl, hw.ch⟩

theorem bbegin_any (ad : Option Addr) (l : List Oup) (c : Nat) (w : World) (hl : l.length ≤ 100) (hE : ElAt w ad 9 (l.map Oup.c)) (hF : ∀ o ∈ l, o.Fit) (hK : ∀ o ∈ l, o.key.size ≤ 1000) (n : Int) :
  Calls Tryz.prog 17 #[.slice ad l.length c, .int .i64 n] w fun e w' => e = .returned (.agg (Pnt.c ⟨bkFirst l, n⟩).toArray) ∧ Ch [] w w' := by
 refine calls_of (n := 9) (E := [(0, .slice ad l.length c), (1, .int .i64 n)]) (W := Hp w [] []) Tryz.func17 rfl rfl (Nat.le_of_ble_eq_true rfl) rfl (Hp.nil _ _) ?_
 refine jsr ?_
 refine jl_m rfl (by decide) rfl (m_alloc) (fun b4 => ?_)
 refine jnt ?_
 refine jsr ?_
 refine jz ?_
 refine jpc (goes_func rfl) (fun w1 hw1 => bfirst_any ad l c w1 hl (hE.keep hw1) hF hK) ?_
 refine jz ?_
 refine jy (y_build (Built.cell rfl rfl rfl (by repeat constructor) (Built.cell rfl rfl rfl (by repeat constructor) Built.nil))) ?_
 refine jst ?_
 refine jnt ?_
 refine jc_ret ?_
 refine jq_res (.inl rfl) rfl (.cell rfl (by first | exact ld_agg (by first | exact mem0 | exact mem1 | exact mem2 | exact mem3 | exact mem4 | exact mem5) (by repeat constructor) | exact ld_agg (by first | exact mem0 | exact mem1 | exact mem2 | exact mem3 | exact mem4 | exact mem5) (by assumption)) .nil) ?_
 exact fun _ hw => ⟨rfl, hw.ch⟩

theorem bkid_any (q : Blq) (w : World) (hl : q.l.length ≤ 1000000) (hE : TxsAt w q.ad q.l) (hL : ∀ x ∈ q.l, Low x.t) (hF : ∀ x ∈ q.l, x.t.Fit) (hh : fits .i64 q.height) :
  Calls Tryz.prog 9 #[.agg (Blq.c q).toArray] w fun e w' => e = .returned (.string (bkID q.b)) ∧ Ch [] w w' := by
 refine calls_of (n := 17) (E := [(0, .agg (Blq.c q).toArray)]) (W := Hp w [] []) Tryz.func9 rfl rfl (Nat.le_of_ble_eq_true rfl) rfl (Hp.nil _ _) ?_
 refine jsr ?_
 refine jl_m rfl (by decide) rfl (m_box rfl rfl) (fun b1 => ?_)
 refine jz ?_
 refine jnt ?_
 refine jc_seq ?_
 refine jsr ?_
 refine jz ?_
 refine jpc (goes_func rfl) (fun w1 hw1 => bkright_any q w1 hl (hE.keep hw1) hL) ?_
 refine jl_bool (fun h4 => ?_) (fun h4 => ?_)
 ·skip
  have hrb : bkRight q.b = true := by assumption
  obtain ⟨r1, r2, r3, r4, r5⟩ := bkRight_iff.1 hrb
  rw [List.length_map] at r4
  have r1 : 1 ≤ q.height := r1
  have r2 : q.height ≤ 4294967295 := r2
  have r3 : q.prev.size = 16 := r3
  have hcs := cat_size (f := fun x : Txq => txID x.t) (n := 16) (l := q.l) (fun x _ => txID_le x.t)
  refine jz ?_
  refine jnt ?_
  refine jc_false rfl ?_
  refine jc_skip ?_
  refine jq_then ?_
  refine jc_seq ?_
  refine jc_tail 9 (by kernel_rfl) (fun _ h => h.drew) ?_
  simp only [List.take_succ_cons, List.take_zero, List.drop_succ_cons, List.drop_zero]
  refine jtz ?_
  refine jtz ?_
  refine jt_call rfl (by decide) rfl (goes_func rfl) (fun w1 hw1 => pcall hw1 (bhigh_any q.height w1 hh)) ?_
  refine jt_as (u := .int .u64 q.height) (congrArg (Value.int .u64) (by unfold cntN; rw [if_neg (by omega)])) ?_
  refine jt_call rfl (by decide) rfl (goes_func rfl) (fun w1 hw1 => pcall hw1 (put_any q.height w1 (by simp only [fits]; omega))) ?_
  refine jtz ?_
  refine jtz ?_
  refine jtz ?_
  refine jtz ?_
  refine jt_call rfl (by decide) rfl (goes_func rfl) (fun w1 hw1 => pcall hw1 (joinT_any q.ad q.l q.cp w1 hl (hE.keep hw1) hL hF)) ?_
  refine jt_nil ?_
  refine jl_m rfl (by decide) rfl (m_buildSlice (by decide) (Built.cell rfl rfl rfl (by repeat constructor) (Built.cell rfl rfl rfl (by repeat constructor) (Built.cell rfl rfl rfl (by repeat constructor) Built.nil)))) (fun b15 => ?_)
  refine jpc (goes_func rfl) (fun w1 hw1 => tag_any strBlock (some ⟨b15, 0, none⟩) 3 [putS q.height, q.prev, catB (q.l.map fun x : Txq => txID x.t)] w1 (by decide) (by simp) (all3 (by rw [putS_size]; decide) (by omega) (by omega)) (Strs.of_row (hw1.get mem0))) ?_
  refine jz ?_
  refine jnt ?_
  refine jc_ret ?_
  refine jq_ret1 rfl rfl ?_
  exact fun _ hw => ⟨by unfold bkID; rw [if_pos hrb, show q.b.txs.map txID = q.l.map fun x : Txq => txID x.t from List.map_map ..], hw.ch⟩
 ·skip
  refine jz ?_
  refine jnt ?_
  refine jc_true rfl ?_
  refine jsr ?_
  refine jz ?_
  refine jnt ?_
  refine jc_ret ?_
  refine jq_then_ret ?_
  refine jq_ret1 rfl rfl ?_
  exact fun _ hw => ⟨by unfold bkID; rw [if_neg (by simp_all)], hw.ch⟩

theorem bkenc_of (qh : Int) (qp : ByteArray) (l : List Txq) (ad : Option Addr) (cp : Nat) (w : World) (hl : l.length ≤ 1000000) (hE : TxsAt w ad l) (hL : ∀ x ∈ l, Low x.t) (hF : ∀ x ∈ l, x.t.Fit) (hh : fits .i64 qh) :
  Calls Tryz.prog 11 #[.agg (Blq.c (⟨qh, qp, l, ad, cp⟩ : Blq)).toArray] w fun e w' => e = .returned (.string (bkEnc (⟨qh, qp, l, ad, cp⟩ : Blq).b)) ∧ Ch [] w w' := by
 refine calls_of (n := 33) (E := [(0, .agg (Blq.c (⟨qh, qp, l, ad, cp⟩ : Blq)).toArray)]) (W := Hp w [] []) Tryz.func11 rfl rfl (Nat.le_of_ble_eq_true rfl) rfl (Hp.nil _ _) ?_
 refine jsr ?_
 refine jl_m rfl (by decide) rfl (m_box rfl rfl) (fun b1 => ?_)
 refine jz ?_
 refine jnt ?_
 refine jc_seq ?_
 refine jsr ?_
 refine jz ?_
 refine jpc (goes_func rfl) (fun w1 hw1 => bkright_any (⟨qh, qp, l, ad, cp⟩ : Blq) w1 hl (hE.keep hw1) hL) ?_
 refine jl_bool (fun h7 => ?_) (fun h7 => ?_)
 ·skip
  have hrb : bkRight (⟨qh, qp, l, ad, cp⟩ : Blq).b = true := by assumption
  obtain ⟨r1, r2, r3, r4, r5⟩ := bkRight_iff.1 hrb
  rw [List.length_map] at r4
  have r1 : 1 ≤ qh := r1
  have r2 : qh ≤ 4294967295 := r2
  have r3 : qp.size = 16 := r3
  refine jz ?_
  refine jnt ?_
  refine jc_false rfl ?_
  refine jc_skip ?_
  refine jq_then ?_
  refine jsr ?_
  refine jl_m rfl (by decide) rfl (m_alloc) (fun b3 => ?_)
  refine jnt ?_
  refine jsr ?_
  refine juc (goes_func rfl) (fun w1 hw1 => wbyte_any b3 (w0) (66) (by simp only [fits]; decide) w1 (wz) hw1) ?_
  refine jnt ?_
  refine jsr ?_
  refine jz ?_
  refine jz ?_
  refine jpc (goes_func rfl) (fun w1 hw1 => bhigh_any qh w1 hh) ?_
  refine jl_as (u := .int .u64 qh) (congrArg (Value.int .u64) (by unfold cntN; rw [if_neg (by omega)])) ?_
  refine juc (goes_func rfl) (fun w1 hw1 => wnum_any b3 (wByte (w0) (66)) (qh) (by simp only [fits]; omega) w1 (wz) hw1) ?_
  refine jnt ?_
  refine jsr ?_
  refine jz ?_
  refine jz ?_
  refine juc (goes_func rfl) (fun w1 hw1 => whash_any b3 (wNum (wByte (w0) (66)) (qh)) (qp) (by omega) w1 (wz) hw1) ?_
  refine jnt ?_
  refine jsr ?_
  refine jz ?_
  refine jz ?_
  refine jy (y_len_slice rfl) ?_
  refine juc (goes_func rfl) (fun w1 hw1 => wbyte_any b3 (wHash (wNum (wByte (w0) (66)) (qh)) (qp)) (((l.length : Nat) : Int)) (by simp only [fits]; omega) w1 (wz) hw1) ?_
  refine jnt ?_
  refine jc_seq ?_
  refine jsr ?_
  refine jz ?_
  refine jz ?_
  refine jy (y_len_slice rfl) ?_
  refine jz ?_
  refine jnt ?_
  refine jc_block ?_
  refine jc_loop (fun (i : Nat) => [(1, .pointer (some ⟨b1, 0, none⟩)), (3, .pointer (some ⟨b3, 0, none⟩)), (22, .slice ad l.length cp), (23, .int .i64 l.length), (24, .int .i64 (i : Nat))]) (fun (i : Nat) => fun w' => i ≤ l.length ∧ Hp w [] [.cells b3 [.string (((l.take i).foldl bkF (bkHead qh qp l.length))).1, .int .i64 (((l.take i).foldl bkF (bkHead qh qp l.length))).2], .cells b1 (Blq.c (⟨qh, qp, l, ad, cp⟩ : Blq))] w') (fun (i : Nat) => l.length - i) 0 ?_ ?_ ?_
  ·exact ⟨rfl, rfl, rfl, rfl, rfl, trivial⟩
  ·exact fun _ h => ⟨by omega, h⟩
  ·intro i
   refine jc_and (fun hi => ?_)
   refine jsr ?_
   refine jy (y_lss rfl rfl) ?_
   refine jl_prop (fun h25 => ?_) (fun h25 => ?_)
   ·first
    | (exfalso; omega)
    | (
     have hlt : i < l.length := by omega
     obtain ⟨bb, oo, ea, hold⟩ := hE.get hlt
     subst ea
     have hqa := hE.each _ (List.getElem_mem hlt)
     have hql := hL _ (List.getElem_mem hlt)
     have hqf := hF _ (List.getElem_mem hlt)
     generalize hxe : l[i]'hlt = q at *
     have hzs := bkF_size qh qp l.length l i r4
     have hxs := txEnc_size q.t
     refine jnt ?_
     refine jc_seq ?_
     refine jc_true rfl ?_
     refine jc_skip ?_
     refine jq_then ?_
     refine jc_seq ?_
     refine jc_block ?_
     refine jsr ?_
     refine jy (y_indexAddr_slice (off := oo + i * 6) rfl rfl (by omega) (by omega) (by omega)) ?_
     refine jy (y_loadAgg_old rfl rfl hold (by simp)) ?_
     refine jl_m rfl (by decide) rfl (m_alloc) (fun b5 => ?_)
     refine jst ?_
     refine jnt ?_
     refine jc_region ?_
     refine jz ?_
     refine jpc (goes_func rfl) (fun w1 hw1 => txenc_any q.t q.a1 q.c1 q.a2 q.c2 q.a3 q.c3 w1 (hqa.ins.keep hw1) (hqa.outs.keep hw1) (hqa.wins.keep hw1) hql.a hql.b hql.d hqf) ?_
     refine juc (goes_func rfl) (fun w1 hw1 => wblob_any b3 (((l.take i).foldl bkF (bkHead qh qp l.length))) (txEnc q.t) (by omega) w1 (by omega) hw1) ?_
     refine jl_nil ?_
     refine jq_block ?_
     refine jq_then ?_
     refine jc_region ?_
     refine jy (y_add_fits rfl rfl (by simp only [fits]; omega)) ?_
     refine jz ?_
     refine jl_nil ?_
     refine jq_round (i := i) (i + 1) ?_ ?_ ?_
     ·omega
     ·exact ⟨rfl, rfl, rfl, rfl, lk_int rfl (by omega), trivial⟩
     ·exact fun _ h => ⟨by omega, h.pop.cast (by rw [fold_take bkF hlt, hxe]; rfl)⟩
     )
   ·first
    | (exfalso; omega)
    | (
     refine jnt ?_
     refine jc_seq ?_
     refine jc_false rfl ?_
     refine jc_exit ?_
     refine jq_then_exit ?_
     refine jq_then_exit ?_
     refine jq_hit ?_
     refine jq_then ?_
     refine jsr ?_
     refine jpc (goes_func rfl) (fun w1 hw1 => wtext_any b3 (((l.take i).foldl bkF (bkHead qh qp l.length))) w1 (CellAt.of_cells (hw1.get (A := .cells b3 [.string (((l.take i).foldl bkF (bkHead qh qp l.length))).1, .int .i64 (((l.take i).foldl bkF (bkHead qh qp l.length))).2]) mem0) rfl) (CellAt.of_cells (hw1.get (A := .cells b3 [.string (((l.take i).foldl bkF (bkHead qh qp l.length))).1, .int .i64 (((l.take i).foldl bkF (bkHead qh qp l.length))).2]) mem0) rfl)) ?_
     refine jz ?_
     refine jnt ?_
     refine jc_ret ?_
     refine jq_ret1 rfl rfl ?_
     exact fun _ hw => ⟨by unfold bkEnc; rw [if_pos hrb, bkPut_eq, List.take_of_length_le (by omega)], hw.ch⟩
     )
 ·skip
  refine jz ?_
  refine jnt ?_
  refine jc_true rfl ?_
  refine jsr ?_
  refine jz ?_
  refine jnt ?_
  refine jc_ret ?_
  refine jq_then_ret ?_
  refine jq_ret1 rfl rfl ?_
  exact fun _ hw => ⟨by unfold bkEnc; rw [if_neg (by simp_all)], hw.ch⟩

theorem bkenc_any (q : Blq) (w : World) (hl : q.l.length ≤ 1000000) (hE : TxsAt w q.ad q.l) (hL : ∀ x ∈ q.l, Low x.t) (hF : ∀ x ∈ q.l, x.t.Fit) (hh : fits .i64 q.height) : Calls Tryz.prog 11 #[.agg (Blq.c q).toArray] w fun e w' => e = .returned (.string (bkEnc q.b)) ∧ Ch [] w w' :=
  bkenc_of q.height q.prev q.l q.ad q.cp w hl hE hL hF hh
theorem eqT_any (ad aq : Option Addr) (c d : Nat) (l m : List Txq) (w : World) (hE : TxsAt w ad l) (hQ : TxsAt w aq m) (hl : l.length ≤ 1000000) (hm : m.length ≤ 1000000) (hL : ∀ q ∈ l, Low q.t) (hM : ∀ q ∈ m, Low q.t) :
  Calls Tryz.prog 47 #[.slice ad l.length c, .slice aq m.length d, .func (.func 48) #[] #[]] w fun e w' => e = .returned (.bool (decide (txsQ l = txsQ m))) ∧ Ch [] w w' := by
 refine calls_of (n := 32) (E := [(0, .slice ad l.length c), (1, .slice aq m.length d), (2, .func (.func 48) #[] #[])]) (W := Hp w [] []) Tryz.func47 rfl rfl (Nat.le_of_ble_eq_true rfl) rfl (Hp.nil _ _) ?_
 refine jsr ?_
 refine jz ?_
 refine jnt ?_
 refine jc_seq ?_
 refine jsr ?_
 refine jz ?_
 refine jy (y_len_slice rfl) ?_
 refine jz ?_
 refine jy (y_len_slice rfl) ?_
 refine jy (y_neq rfl rfl) ?_
 refine jl_prop (fun h14 => ?_) (fun h14 => ?_)
 ·first
  | (exfalso; omega)
  | (
   refine jnt ?_
   refine jc_true rfl ?_
   refine jsr ?_
   refine jz ?_
   refine jnt ?_
   refine jc_ret ?_
   refine jq_then_ret ?_
   refine jq_ret1 rfl rfl ?_
   exact fun _ hw => ⟨congrArg (fun b => Ending.returned (Value.bool b)) (by symm; rw [decide_eq_false_iff_not]; intro e; have := congrArg List.length e; rw [List.length_map, List.length_map] at this; omega), hw.ch⟩
   )
 ·first
  | (exfalso; omega)
  | (
   refine jnt ?_
   refine jc_false rfl ?_
   refine jc_skip ?_
   refine jq_then ?_
   refine jc_seq ?_
   refine jsr ?_
   refine jz ?_
   refine jy (y_len_slice rfl) ?_
   refine jz ?_
   refine jnt ?_
   refine jc_block ?_
   refine jc_loop (fun (i : Nat) => [(1, .slice aq m.length d), (2, .func (.func 48) #[] #[]), (15, .slice ad l.length c), (16, .int .i64 l.length), (17, .int .i64 (i : Nat))]) (fun (i : Nat) => fun w' => (i ≤ l.length ∧ (txsQ l).take i = (txsQ m).take i) ∧ Hp w [] [] w') (fun (i : Nat) => l.length - i) 0 ?_ ?_ ?_
   ·exact ⟨rfl, rfl, rfl, rfl, rfl, trivial⟩
   ·exact fun _ h => ⟨⟨by omega, rfl⟩, h⟩
   ·intro i
    refine jc_and (fun hi => ?_)
    refine jsr ?_
    refine jy (y_lss rfl rfl) ?_
    refine jl_prop (fun h18 => ?_) (fun h18 => ?_)
    ·first
     | (exfalso; omega)
     | (
      have hlt : i < l.length := by omega
      have hlq : i < m.length := by omega
      obtain ⟨bb, oo, ea, hold⟩ := hE.get hlt
      obtain ⟨bq, oq, eq, holq⟩ := hQ.get hlq
      subst ea
      subst eq
      have hqa := hE.each _ (List.getElem_mem hlt)
      have hql := hL _ (List.getElem_mem hlt)
      have hra := hQ.each _ (List.getElem_mem hlq)
      have hrl := hM _ (List.getElem_mem hlq)
      generalize hxe : l[i]'hlt = x at *
      generalize hye : m[i]'hlq = y at *
      refine jnt ?_
      refine jc_seq ?_
      refine jc_true rfl ?_
      refine jc_skip ?_
      refine jq_then ?_
      refine jc_seq ?_
      refine jc_block ?_
      refine jsr ?_
      refine jz ?_
      refine jy (y_indexAddr_slice (off := oo + i * 6) rfl rfl (by omega) (by omega) (by omega)) ?_
      refine jy (y_loadAgg_old rfl rfl hold (by simp)) ?_
      refine jl_m rfl (by decide) rfl (m_alloc) (fun b8 => ?_)
      refine jz ?_
      refine jst ?_
      refine jnt ?_
      refine jsr ?_
      refine jz ?_
      refine jz ?_
      refine jy (y_indexAddr_slice (off := oq + i * 6) rfl rfl (by omega) (by omega) (by omega)) ?_
      refine jy (y_loadAgg_old rfl rfl holq (by simp)) ?_
      refine jl_m rfl (by decide) rfl (m_alloc) (fun b9 => ?_)
      refine jst ?_
      refine jnt ?_
      refine jsr ?_
      refine jz ?_
      refine jz ?_
      refine jz ?_
      refine jl_pcall rfl (by decide) rfl (goes_value rfl rfl) (fun w1 hw1 => pcall hw1 (cosame_any x.t y.t x.a1 x.c1 x.a2 x.c2 x.a3 x.c3 y.a1 y.c1 y.a2 y.c2 y.a3 y.c3 w1 (hqa.ins.keep hw1) (hqa.outs.keep hw1) (hqa.wins.keep hw1) (hra.ins.keep hw1) (hra.outs.keep hw1) (hra.wins.keep hw1) hql.a hql.b hql.d hrl.a hrl.b hrl.d)) ?_
      refine jl_bool (fun h29 => ?_) (fun h29 => ?_)
      ·skip
       refine jz ?_
       refine jnt ?_
       refine jc_false rfl ?_
       refine jc_skip ?_
       refine jq_block ?_
       refine jq_then ?_
       refine jc_region ?_
       refine jy (y_add_fits rfl rfl (by simp only [fits]; omega)) ?_
       refine jz ?_
       refine jl_nil ?_
       refine jq_round (i := i) (i + 1) ?_ ?_ ?_
       ·omega
       ·exact ⟨rfl, rfl, rfl, rfl, lk_int rfl (by omega), trivial⟩
       ·exact fun _ h => ⟨⟨by omega, eqQ_next hlt hlq hi.2 (by rw [hxe, hye]; first | assumption | simp_all)⟩, h.part .nil⟩
      ·skip
       refine jz ?_
       refine jnt ?_
       refine jc_true rfl ?_
       refine jsr ?_
       refine jz ?_
       refine jnt ?_
       refine jc_ret ?_
       refine jq_block_ret ?_
       refine jq_then_ret ?_
       refine jq_then_ret ?_
       refine jq_block_ret ?_
       refine jq_then_ret ?_
       refine jq_ret1 rfl rfl ?_
       exact fun _ hw => ⟨congrArg (fun b => Ending.returned (Value.bool b)) (by symm; rw [decide_eq_false_iff_not]; intro e; exact eqQ_not hlt hlq e (by rw [hxe, hye]; first | assumption | simp_all)), hw.ch⟩
      )
    ·first
     | (exfalso; omega)
     | (
      refine jnt ?_
      refine jc_seq ?_
      refine jc_false rfl ?_
      refine jc_exit ?_
      refine jq_then_exit ?_
      refine jq_then_exit ?_
      refine jq_hit ?_
      refine jq_then ?_
      refine jsr ?_
      refine jz ?_
      refine jnt ?_
      refine jc_ret ?_
      refine jq_ret1 rfl rfl ?_
      exact fun _ hw => ⟨congrArg (fun b => Ending.returned (Value.bool b)) (by symm; rw [decide_eq_true_eq]; have := hi.2; rwa [List.take_of_length_le (by rw [List.length_map]; omega), List.take_of_length_le (by rw [List.length_map]; omega)] at this), hw.ch⟩
      )
   )

theorem bksame_any (q r : Blq) (w : World) (hl : q.l.length ≤ 1000000) (hm : r.l.length ≤ 1000000) (hE : TxsAt w q.ad q.l) (hR : TxsAt w r.ad r.l) (hL : ∀ x ∈ q.l, Low x.t) (hM : ∀ x ∈ r.l, Low x.t) :
  Calls Tryz.prog 13 #[.agg (Blq.c q).toArray, .agg (Blq.c r).toArray] w fun e w' => e = .returned (.bool (decide (q.b = r.b))) ∧ Ch [] w w' := by
 refine calls_of (n := 24) (E := [(0, .agg (Blq.c q).toArray), (1, .agg (Blq.c r).toArray)]) (W := Hp w [] []) Tryz.func13 rfl rfl (Nat.le_of_ble_eq_true rfl) rfl (Hp.nil _ _) ?_
 refine jsr ?_
 refine jl_m rfl (by decide) rfl (m_box rfl rfl) (fun b2 => ?_)
 refine jl_m rfl (by decide) rfl (m_box rfl rfl) (fun b3 => ?_)
 refine jz ?_
 refine jnt ?_
 refine jsr ?_
 refine jz ?_
 refine jz ?_
 refine jz ?_
 refine jz ?_
 refine jy (y_eql rfl rfl) ?_
 refine jl_prop (fun h9 => ?_) (fun h9 => ?_)
 ·first
  | (exfalso; omega)
  | (
   refine jz ?_
   refine jz ?_
   refine jz ?_
   refine jz ?_
   refine jz ?_
   refine jy (y_seql rfl rfl) ?_
   refine jl_prop (fun h15 => ?_) (fun h15 => ?_)
   ·skip
    refine jy (y_pick_true rfl rfl) ?_
    refine jz ?_
    refine jz ?_
    refine jz ?_
    refine jz ?_
    refine jz ?_
    refine jpc (goes_func rfl) (fun w1 hw1 => eqT_any q.ad r.ad q.cp r.cp q.l r.l w1 (hE.keep hw1) (hR.keep hw1) hl hm hL hM) ?_
    refine jy (y_pick_true rfl rfl) ?_
    refine jz ?_
    refine jnt ?_
    refine jc_ret ?_
    refine jq_ret1 rfl rfl ?_
    exact fun _ hw => ⟨congrArg (fun b => Ending.returned (Value.bool b)) (by first | exact bkSame_all (by assumption) (by assumption) | exact bkSame_no (fun e => by first | omega | exact absurd e.1 (by assumption) | exact absurd e.2 (by assumption) | simp_all)), hw.ch⟩
   ·skip
    refine jy (y_pick_true rfl rfl) ?_
    refine jz ?_
    refine jsk ?_
    refine jsk ?_
    refine jsk ?_
    refine jsk ?_
    refine jsk ?_
    refine jy (y_pick_false rfl rfl) ?_
    refine jz ?_
    refine jnt ?_
    refine jc_ret ?_
    refine jq_ret1 rfl rfl ?_
    exact fun _ hw => ⟨congrArg (fun b => Ending.returned (Value.bool b)) (by first | exact bkSame_all (by assumption) (by assumption) | exact bkSame_no (fun e => by first | omega | exact absurd e.1 (by assumption) | exact absurd e.2 (by assumption) | simp_all)), hw.ch⟩
   )
 ·first
  | (exfalso; omega)
  | (
   refine jz ?_
   refine jsk ?_
   refine jsk ?_
   refine jsk ?_
   refine jsk ?_
   refine jsk ?_
   refine jy (y_pick_false rfl rfl) ?_
   refine jz ?_
   refine jsk ?_
   refine jsk ?_
   refine jsk ?_
   refine jsk ?_
   refine jsk ?_
   refine jy (y_pick_false rfl rfl) ?_
   refine jz ?_
   refine jnt ?_
   refine jc_ret ?_
   refine jq_ret1 rfl rfl ?_
   exact fun _ hw => ⟨congrArg (fun b => Ending.returned (Value.bool b)) (by first | exact bkSame_all (by assumption) (by assumption) | exact bkSame_no (fun e => by first | omega | exact absurd e.1 (by assumption) | exact absurd e.2 (by assumption) | simp_all)), hw.ch⟩
   )

end Go.Proofs.YtomhcibbalhgkaaGreat

namespace Go.Proofs.YtomhcibbalhgkaaGreat
open Go.RowKit
set_option maxRecDepth 100000
set_option maxHeartbeats 2000000
set_option linter.unusedVariables false
set_option linter.unusedSimpArgs false
attribute [local irreducible] Yields Makes Writes
theorem low_right {t : Trx} (h : txRight t = true) : Low t := by
  obtain ⟨_, _, h3, h4, _, h6⟩ := txRight_iff.1 h
  have := (pfRight_iff.1 h6).2.2.2
  exact ⟨by omega, by omega, by omega⟩
theorem bkL_ok (S : ByteArray) : ∀ n, okR S (rdMany (rdBl S) (bkE S) n).2
  | 0 => bkE_ok S
  | n + 1 => blS_ok (bkL_ok S n)
theorem bkL_size (S : ByteArray) (x : RS) : ∀ n, ∀ v ∈ (rdMany (rdBl S) x n).1, v.size ≤ 1000000000 := fun n => rdMany_all (P := fun v : ByteArray => v.size ≤ 1000000000) (fun y => blV_small S y 4096) x n
theorem strs_get {ps : List ByteArray} {j : Nat} (h : j < ps.length) : (ps.map Value.string)[j]? = some (.string (ps[j])) := by
  rw [List.getElem?_map, List.getElem?_eq_getElem h]; rfl
theorem bkN_range (S : ByteArray) : 0 ≤ bkN S ∧ bkN S ≤ 255 := byV_range S (bkC S)
section
variable {S : ByteArray}
theorem bkErr_3 (h : S ≠ ⟨#[]⟩ ∧ byV S (0, 0) ≠ 66) : bkErr S = 4 := by unfold bkErr; rw [if_pos h]
theorem bkErr_16 (hb : ¬ (S ≠ ⟨#[]⟩ ∧ byV S (0, 0) ≠ 66)) (h : (endE S (bkL S).2 ≠ 0 ∧ endE S (bkL S).2 ≠ 4) ∨ 8 < bkN S) : bkErr S = endE S (bkL S).2 ∧ endE S (bkL S).2 ≠ 0 := by
  refine ⟨by unfold bkErr; rw [if_neg hb, if_pos h], fun e => ?_⟩
  rcases h with c2 | c2
  · exact c2.1 e
  · have h2 := (bl_many (bkE_ok S) (bkK S) (end_back e).1).1
    unfold bkE at h2; rw [if_pos c2] at h2
    exact fl_back h2
theorem bkErr_22 (hb : ¬ (S ≠ ⟨#[]⟩ ∧ byV S (0, 0) ≠ 66)) (h : ¬ ((endE S (bkL S).2 ≠ 0 ∧ endE S (bkL S).2 ≠ 4) ∨ 8 < bkN S)) (hf : firstE (bkL S).1 ≠ 0) : bkErr S = firstE (bkL S).1 := by
  unfold bkErr; rw [if_neg hb, if_neg h, if_neg hf]
theorem bkErr_26 (hb : ¬ (S ≠ ⟨#[]⟩ ∧ byV S (0, 0) ≠ 66)) (h : ¬ ((endE S (bkL S).2 ≠ 0 ∧ endE S (bkL S).2 ≠ 4) ∨ 8 < bkN S)) (hf : firstE (bkL S).1 = 0) (h9 : 9223372036854775807 < nuV S (bkS S) ∨ (bkL S).2.1 < S.size ∨ bkRight (rdBk S) ≠ true) : bkErr S = 4 := by
  unfold bkErr; rw [if_neg hb, if_neg h, if_pos hf, if_pos h9]
theorem bkErr_27 (hb : ¬ (S ≠ ⟨#[]⟩ ∧ byV S (0, 0) ≠ 66)) (h : ¬ ((endE S (bkL S).2 ≠ 0 ∧ endE S (bkL S).2 ≠ 4) ∨ 8 < bkN S)) (hf : firstE (bkL S).1 = 0) (h9 : ¬ (9223372036854775807 < nuV S (bkS S) ∨ (bkL S).2.1 < S.size ∨ bkRight (rdBk S) ≠ true)) : bkErr S = 0 := by
  unfold bkErr; rw [if_neg hb, if_neg h, if_pos hf, if_neg h9]
theorem bkDec_bad (h : bkErr S ≠ 0) : bkDec S = bk0 := by unfold bkDec; rw [if_neg h]
theorem firstE_take : ∀ {l : List ByteArray} {j : Nat} (h : j < l.length), (∀ x ∈ l.take j, txErr x = 0) → txErr l[j] ≠ 0 → firstE l = txErr l[j]
  | [], _, h, _, _ => absurd h (by simp)
  | x :: l, 0, _, _, h2 => by
    have h3 : ¬ txErr x = 0 := h2
    show (if txErr x = 0 then firstE l else txErr x) = _
    rw [if_neg h3]; rfl
  | x :: l, j + 1, h, h1, h2 => by
    show (if txErr x = 0 then firstE l else txErr x) = _
    rw [if_pos (h1 x (.head _)), firstE_take (l := l) (j := j) (by simpa using h) (fun y hy => h1 y (.tail _ hy)) h2]; rfl
theorem firstE_all : ∀ {l : List ByteArray}, (∀ x ∈ l, txErr x = 0) → firstE l = 0
  | [], _ => rfl
  | x :: l, h => by
    show (if txErr x = 0 then firstE l else txErr x) = 0
    rw [if_pos (h x (.head _)), firstE_all fun y hy => h y (.tail _ hy)]
end
theorem txs_next {l : List Txq} {L : List ByteArray} {j : Nat} {q : Txq} (h : j < L.length) (e : txsQ l = (L.take j).map txDec) (hq : q.t = txDec L[j] := by rfl) : txsQ (l ++ [q]) = (L.take (j + 1)).map txDec := by
  have h1 : txsQ (l ++ [q]) = txsQ l ++ [q.t] := by simp
  rw [h1, List.take_succ_eq_append_getElem h, List.map_append, e, hq]; rfl
theorem err_next {L : List ByteArray} {j : Nat} (h : j < L.length) (e : ∀ x ∈ L.take j, txErr x = 0) (h2 : txErr L[j] = 0) : ∀ x ∈ L.take (j + 1), txErr x = 0 := by
  rw [List.take_succ_eq_append_getElem h]
  intro x hx
  rcases List.mem_append.1 hx with hx | hx
  · exact e x hx
  · rw [List.mem_singleton.1 hx]; exact h2
def bq0 : Blq := ⟨0, ⟨#[]⟩, [], none, 0⟩

theorem bkdec_any (S : ByteArray) (w : World) (hS : S.size ≤ 1000000000) :
  Calls Tryz.prog 52 #[.string S] w fun e w' => ∃ q : Blq, e = .returned (.tuple #[.agg (Blq.c q).toArray, .int .i64 (bkErr S)]) ∧ q.b = bkDec S ∧ Hp w [] (q.rows 53 97 56 135) w' := by
 have hnr := bkN_range S
 have hnv := nuV_range S (bkS S)
 have hkl := rdMany_length (rdBl S) (bkE S) (bkK S)
 have hkl2 : (bkL S).1.length = bkK S := hkl
 obtain ⟨ne, hne⟩ : ∃ ne : Int, (if 9223372036854775807 < nuV S (bkS S) then (2 : Int) else 0) = ne := ⟨_, rfl⟩
 have hn2 : (9223372036854775807 < nuV S (bkS S) ∧ ne = 2) ∨ (¬ 9223372036854775807 < nuV S (bkS S) ∧ ne = 0) := by
  by_cases e : 9223372036854775807 < nuV S (bkS S)
  ·rw [if_pos e] at hne; omega
  ·rw [if_neg e] at hne; omega
 have hkk : ((bkK S : Nat) : Int) = min (bkN S) 8 := by unfold bkK; omega
 refine calls_of (n := 101) (E := [(0, .string S)]) (W := Hp w [] []) Tryz.func52 rfl rfl (Nat.le_of_ble_eq_true rfl) rfl (Hp.nil _ _) ?_
 refine jsr ?_
 refine jl_m rfl (by decide) rfl (m_alloc) (fun b2 => ?_)
 refine jz ?_
 refine jnt ?_
 refine jsr ?_
 refine jz ?_
 refine jl_fcall rfl (by decide) rfl (goes_func rfl) (fun w1 hw1 => cread_any S w1) (fun br => ?_)
 refine jz ?_
 refine jnt ?_
 refine jc_join ([(2, .pointer (some ⟨b2, 0, none⟩)), (3, .int .i64 0), (4, .pointer (some ⟨br, 0, none⟩))]) (W' := fun w' => ¬ (S ≠ ⟨#[]⟩ ∧ byV S (0, 0) ≠ 66) ∧ Hp w [] [.cells br [.string (S.extract (bkS S).1 S.size), .int .i64 (bkS S).2], .cells b2 [.int .i64 0, .string ⟨#[]⟩, .slice none 0 0]] w') ?_ ?_
 ·skip
  refine jc_and (fun hb => ?_)
  refine jsr ?_
  refine jz ?_
  refine juc (goes_func rfl) (fun w1 hw1 => cnum_any br S (bkS S) w1 hS (bkS_ok S) hw1) ?_
  refine jpc (goes_func rfl) (fun w1 hw1 => int_any (nuV S (bkS S)) w1 hnv) ?_
  refine jz ?_
  refine jz ?_
  refine jl_as (u := .int .i64 (intV (nuV S (bkS S)))) rfl ?_
  refine jz ?_
  refine jl_as (u := .int .i64 ne) (congrArg (Value.int .i64) hne) ?_
  refine jz ?_
  refine jz ?_
  refine jnt ?_
  refine jc_seq ?_
  refine jc_world (fun _ h => h.cast (H' := [.cells br [.string (S.extract (bkB S).1 S.size), .int .i64 (bkB S).2], .cells b2 [.int .i64 0, .string ⟨#[]⟩, .slice none 0 0]]) rfl) ?_
  refine jc_region ?_
  refine jz ?_
  refine jz ?_
  refine juc (goes_func rfl) (fun w1 hw1 => chash_any br S (bkB S) w1 hS (nuS_ok (bkS_ok S)) hw1) ?_
  refine jy (y_build (Built.cell rfl rfl rfl (by repeat constructor) (Built.cell rfl rfl rfl (by repeat constructor) Built.nil))) ?_
  refine jl_m rfl (by decide) rfl (m_alloc) (fun b7 => ?_)
  refine jst ?_
  refine jnt ?_
  refine jc_seq ?_
  refine jc_world (fun _ h => h.cast (H' := [.cells b7 [.int .i64 (intV (nuV S (bkS S))), .string (haV S (bkB S)), .slice none 0 0], .cells br [.string (S.extract (bkC S).1 S.size), .int .i64 (bkC S).2], .cells b2 [.int .i64 0, .string ⟨#[]⟩, .slice none 0 0]]) rfl) ?_
  refine jc_region ?_
  refine jz ?_
  refine jl_ucallH rfl (by decide) rfl (goes_func rfl) (by rfl) (fun w1 hw1 => cbyte_any br S (bkC S) w1 hS (haS_ok (nuS_ok (bkS_ok S))) (hw1.get mem1)) (by first | exact rep0 | exact rep1 | exact rep2 | exact rep3 | exact rep4 | exact rep5) ?_
  refine jl_as (u := .int .i64 (bkN S)) rfl ?_
  refine jz ?_
  refine jnt ?_
  refine jc_join ([(2, .pointer (some ⟨b2, 0, none⟩)), (3, .int .i64 0), (4, .pointer (some ⟨br, 0, none⟩)), (5, .int .i64 (intV (nuV S (bkS S)))), (6, .int .i64 ne), (7, .pointer (some ⟨b7, 0, none⟩)), (8, .int .i64 (bkN S))]) (W' := Hp w [] [.cells b7 [.int .i64 (intV (nuV S (bkS S))), .string (haV S (bkB S)), .slice none 0 0], .cells br [.string (S.extract (bkE S).1 S.size), .int .i64 (bkE S).2], .cells b2 [.int .i64 0, .string ⟨#[]⟩, .slice none 0 0]]) ?_ ?_
  ·skip
   refine jsr ?_
   refine jz ?_
   refine jnt ?_
   refine jc_seq ?_
   refine jsr ?_
   refine jz ?_
   refine jy (y_min rfl rfl) ?_
   refine jl_as (u := .int .i64 ((bkK S : Nat) : Int)) (congrArg (Value.int .i64) (by omega)) ?_
   refine jz ?_
   refine jnt ?_
   refine jc_block ?_
   refine jc_loop3 (fun (i : Nat) (al : Option Addr) (cl : Nat) => [(2, .pointer (some ⟨b2, 0, none⟩)), (3, .int .i64 0), (4, .pointer (some ⟨br, 0, none⟩)), (5, .int .i64 (intV (nuV S (bkS S)))), (6, .int .i64 ne), (7, .pointer (some ⟨b7, 0, none⟩)), (8, .int .i64 (bkN S)), (9, .slice al i cl), (42, .int .i64 ((bkK S : Nat) : Int)), (43, .int .i64 (i : Nat))]) (fun (i : Nat) (al : Option Addr) (cl : Nat) => fun w' => i ≤ bkK S ∧ Hp w [] [.row al i cl 9 1 (((rdMany (rdBl S) (bkE S) i).1).map Value.string), .cells b7 [.int .i64 (intV (nuV S (bkS S))), .string (haV S (bkB S)), .slice none 0 0], .cells br [.string (S.extract ((rdMany (rdBl S) (bkE S) i).2).1 S.size), .int .i64 ((rdMany (rdBl S) (bkE S) i).2).2], .cells b2 [.int .i64 0, .string ⟨#[]⟩, .slice none 0 0]] w') (fun (i : Nat) (al : Option Addr) (cl : Nat) => bkK S - i) 0 none 0 ?_ ?_ ?_
   ·exact ⟨rfl, rfl, rfl, rfl, rfl, rfl, rfl, rfl, rfl, rfl, trivial⟩
   ·exact fun _ h => ⟨by omega, h.nilrow 9 1⟩
   ·intro i al cl
    refine jc_and (fun hi => ?_)
    refine jsr ?_
    refine jy (y_lss rfl rfl) ?_
    refine jl_prop (fun h44 => ?_) (fun h44 => ?_)
    ·first
     | (exfalso; omega)
     | (
      refine jnt ?_
      refine jc_seq ?_
      refine jc_true rfl ?_
      refine jc_skip ?_
      refine jq_then ?_
      refine jc_seq ?_
      refine jc_block ?_
      refine jc_region ?_
      refine jz ?_
      refine jz ?_
      refine jl_ucallH rfl (by decide) rfl (goes_func rfl) (by rfl) (fun w1 hw1 => cblob_any br S (rdMany (rdBl S) (bkE S) i).2 4096 w1 hS (bkL_ok S i) (hw1.get mem2)) (by first | exact rep0 | exact rep1 | exact rep2 | exact rep3 | exact rep4 | exact rep5) ?_
      refine jl_m rfl (by decide) rfl (m_buildSlice (by decide) (Built.cell rfl rfl rfl (by repeat constructor) Built.nil)) (fun b48 => ?_)
      refine jl_m2 rfl (by decide) rfl (m_append rfl rfl (by first | exact del0 | exact del1 | exact del2 | exact del3 | exact del4) (by first | exact del0 | exact del1 | exact del2 | exact del3 | exact del4) rfl (by omega) (by omega)) (fun a49 c49 => ?_)
      refine jz ?_
      refine jl_nil ?_
      refine jq_block ?_
      refine jq_then ?_
      refine jc_region ?_
      refine jy (y_add_fits rfl rfl (by simp only [fits]; omega)) ?_
      refine jz ?_
      refine jl_nil ?_
      refine jq_round3 (i := i) (j := al) (l := cl) (i + 1) a49 c49 ?_ ?_ ?_
      ·omega
      ·exact ⟨rfl, rfl, rfl, rfl, rfl, rfl, rfl, rfl, rfl, lk_int rfl (by omega), trivial⟩
      ·exact fun _ h => ⟨by omega, h.cast (by rw [show (rdMany (rdBl S) (bkE S) (i + 1)) = ((rdMany (rdBl S) (bkE S) i).1 ++ [blV S (rdMany (rdBl S) (bkE S) i).2 4096], blS S (rdMany (rdBl S) (bkE S) i).2 4096) from rfl, List.map_append]; rfl)⟩
      )
    ·first
     | (exfalso; omega)
     | (
      refine jnt ?_
      refine jc_seq ?_
      refine jc_false rfl ?_
      refine jc_exit ?_
      refine jq_then_exit ?_
      refine jq_then_exit ?_
      refine jq_hit ?_
      refine jq_then ?_
      refine jc_join ([(2, .pointer (some ⟨b2, 0, none⟩)), (3, .int .i64 0), (4, .pointer (some ⟨br, 0, none⟩)), (5, .int .i64 (intV (nuV S (bkS S)))), (6, .int .i64 ne), (7, .pointer (some ⟨b7, 0, none⟩)), (8, .int .i64 (bkN S)), (9, .slice al (bkK S) cl)]) (W' := fun w' => ¬ ((endE S (bkL S).2 ≠ 0 ∧ endE S (bkL S).2 ≠ 4) ∨ 8 < bkN S) ∧ Hp w [] [.row al (bkK S) cl 9 1 (((bkL S).1).map Value.string), .cells b7 [.int .i64 (intV (nuV S (bkS S))), .string (haV S (bkB S)), .slice none 0 0], .cells br [.string (S.extract ((bkL S).2).1 S.size), .int .i64 ((bkL S).2).2], .cells b2 [.int .i64 0, .string ⟨#[]⟩, .slice none 0 0]] w') ?_ ?_
      ·skip
       refine jc_and (fun hc2 => ?_)
       refine jc_seq ?_
       refine jsr ?_
       refine jz ?_
       refine jy (y_len_slice rfl) ?_
       refine jz ?_
       refine jnt ?_
       refine jc_block ?_
       refine jc_loop4 (fun (j : Nat) (l : List Txq) (a7 : Option Addr) (c7 : Nat) => [(2, .pointer (some ⟨b2, 0, none⟩)), (3, .int .i64 0), (4, .pointer (some ⟨br, 0, none⟩)), (6, .int .i64 ne), (7, .pointer (some ⟨b7, 0, none⟩)), (65, .slice al (bkK S) cl), (66, .int .i64 ((bkK S : Nat) : Int)), (67, .int .i64 (j : Nat))]) (fun (j : Nat) (l : List Txq) (a7 : Option Addr) (c7 : Nat) => fun w' => (j ≤ bkK S ∧ txsQ l = ((bkL S).1.take j).map txDec ∧ (∀ x ∈ (bkL S).1.take j, txErr x = 0)) ∧ Hp w [] (.row a7 (l).length c7 53 6 ((l).flatMap Txq.c) :: .cells b7 [.int .i64 (intV (nuV S (bkS S))), .string (haV S (bkB S)), .slice a7 l.length c7] :: .row al (bkK S) cl 9 1 (((bkL S).1).map Value.string) :: .cells br [.string (S.extract ((bkL S).2).1 S.size), .int .i64 ((bkL S).2).2] :: .cells b2 [.int .i64 0, .string ⟨#[]⟩, .slice none 0 0] :: rowsQ 97 56 135 l) w') (fun (j : Nat) (l : List Txq) (a7 : Option Addr) (c7 : Nat) => bkK S - j) 0 [] none 0 ?_ ?_ ?_
       ·exact ⟨rfl, rfl, rfl, rfl, rfl, rfl, rfl, rfl, trivial⟩
       ·exact fun _ h => ⟨⟨by omega, rfl, fun x hx => by cases hx⟩, (h.nilrow 53 6).part (.cons del0 (.cons (by first | exact del0 | exact del1) (.cons (by first | exact del0 | exact del1) (.cons del0 (.cons del0 .nil)))))⟩
       ·intro j l a7 c7
        refine jc_and (fun hj => ?_)
        refine jsr ?_
        refine jy (y_lss rfl rfl) ?_
        refine jl_prop (fun h68 => ?_) (fun h68 => ?_)
        ·first
         | (exfalso; omega)
         | (
          have hlt : j < (bkL S).1.length := by have : (bkL S).1.length = bkK S := hkl; omega
          refine jl_pure (p := ∃ b, al = some ⟨b, 0, none⟩) (fun w h => row_some (h.get (A := .row al (bkK S) cl 9 1 (((bkL S).1).map Value.string)) mem2) (by omega)) (fun hb2 => ?_)
          obtain ⟨bs, rfl⟩ := hb2
          have hll8 : l.length = j := by have := congrArg List.length hj.2.1; rw [List.length_map, List.length_map, List.length_take] at this; omega
          have hxs := bkL_size S (bkE S) (bkK S) _ (List.getElem_mem hlt)
          refine jnt ?_
          refine jc_seq ?_
          refine jc_true rfl ?_
          refine jc_skip ?_
          refine jq_then ?_
          refine jc_seq ?_
          refine jc_block ?_
          refine jsr ?_
          refine jy (y_indexAddr_slice (off := j) rfl rfl (by omega) (by omega) (by omega)) ?_
          refine jy (y_load_row rfl mem2 (strs_get hlt)) ?_
          refine jz ?_
          refine jnt ?_
          refine jsr ?_
          refine jz ?_
          refine jl_gcall3 rfl (by decide) rfl (goes_func rfl) (fun w1 hw1 => codec_any ((bkL S).1[j]) w1 hxs) (fun pd => ?_)
          refine jz ?_
          refine jz ?_
          refine jz ?_
          refine jl_m rfl (by decide) rfl (m_alloc) (fun b13 => ?_)
          refine jst ?_
          refine jz ?_
          refine jnt ?_
          refine jc_seq ?_
          refine jsr ?_
          refine jz ?_
          refine jy (y_neq rfl rfl) ?_
          refine jl_prop (fun h77 => ?_) (fun h77 => ?_)
          ·first
           | (exfalso; omega)
           | (
            refine jnt ?_
            refine jc_true rfl ?_
            refine jc_seq ?_
            refine jc_world (fun _ h => (Hp.partA [_, _, _, _, _, _, _, _, _] [.cells b2 [.int .i64 0, .string ⟨#[]⟩, .slice none 0 0]] h (.cons (.tail (.tail (.tail (.tail (.tail (.tail (.tail (.tail .head)))))))) .nil) : Hp w [] (.cells b2 [.int .i64 0, .string ⟨#[]⟩, .slice none 0 0] :: rowsQ 97 56 135 l) _)) ?_
            refine jc_region ?_
            refine jy (y_build Built.nil) ?_
            refine jz ?_
            refine jst ?_
            refine jz ?_
            refine jnt ?_
            refine jc_ret ?_
            refine jq_then_ret ?_
            refine jq_block_ret ?_
            refine jq_then_ret ?_
            refine jq_then_ret ?_
            refine jq_block_ret ?_
            refine jq_then_ret ?_
            refine jq_res (.inl rfl) rfl (.cell rfl (by first | exact ld_agg (by first | exact mem0 | exact mem1 | exact mem2 | exact mem3 | exact mem4 | exact mem5) (by repeat constructor) | exact ld_agg (by first | exact mem0 | exact mem1 | exact mem2 | exact mem3 | exact mem4 | exact mem5) (by assumption)) (.tmp rfl .nil)) ?_
            exact fun _ hw => (by have ht := (bkErr_22 hb hc2 (by rw [firstE_take hlt hj.2.2 (by assumption)]; assumption)).trans (firstE_take hlt hj.2.2 (by assumption)); have hz : bkErr S ≠ 0 := (by rw [ht]; first | decide | assumption | omega); exact ⟨bq0, by rw [ht]; rfl, (bkDec_bad hz).symm, (Hp.of_ch hw.ch).nilrow 53 6⟩)
            )
          ·first
           | (exfalso; omega)
           | (
            refine jnt ?_
            refine jc_false rfl ?_
            refine jc_skip ?_
            refine jq_then ?_
            refine jc_world (fun _ h => (Hp.partA [_, _, _, _, _, _, _, _, _] [.cells b13 (Trx.c (txDec (bkL S).1[j]) pd.1.1 pd.1.2 pd.2.1.1 pd.2.1.2 pd.2.2.1 pd.2.2.2), .row a7 (l).length c7 53 6 ((l).flatMap Txq.c), .cells b7 [.int .i64 (intV (nuV S (bkS S))), .string (haV S (bkB S)), .slice a7 l.length c7], .row pd.1.1 (txDec (bkL S).1[j]).ins.length pd.1.2 97 4 ((txDec (bkL S).1[j]).ins.flatMap Inp.c), .row pd.2.1.1 (txDec (bkL S).1[j]).outs.length pd.2.1.2 56 9 ((txDec (bkL S).1[j]).outs.flatMap Oup.c), .row pd.2.2.1 (txDec (bkL S).1[j]).pf.wins.length pd.2.2.2 135 10 ((txDec (bkL S).1[j]).pf.wins.flatMap Wn.c), .row (some ⟨bs, 0, none⟩) (bkK S) cl 9 1 (((bkL S).1).map Value.string), .cells br [.string (S.extract ((bkL S).2).1 S.size), .int .i64 ((bkL S).2).2], .cells b2 [.int .i64 0, .string ⟨#[]⟩, .slice none 0 0]] h (.cons del0 (.cons del3 (.cons del3 (.cons del0 (.cons del0 (.cons del0 (.cons del0 (.cons del0 (.cons del0 .nil))))))))) : Hp w [] (.cells b13 (Trx.c (txDec (bkL S).1[j]) pd.1.1 pd.1.2 pd.2.1.1 pd.2.1.2 pd.2.2.1 pd.2.2.2) :: .row a7 (l).length c7 53 6 ((l).flatMap Txq.c) :: .cells b7 [.int .i64 (intV (nuV S (bkS S))), .string (haV S (bkB S)), .slice a7 l.length c7] :: .row pd.1.1 (txDec (bkL S).1[j]).ins.length pd.1.2 97 4 ((txDec (bkL S).1[j]).ins.flatMap Inp.c) :: .row pd.2.1.1 (txDec (bkL S).1[j]).outs.length pd.2.1.2 56 9 ((txDec (bkL S).1[j]).outs.flatMap Oup.c) :: .row pd.2.2.1 (txDec (bkL S).1[j]).pf.wins.length pd.2.2.2 135 10 ((txDec (bkL S).1[j]).pf.wins.flatMap Wn.c) :: .row (some ⟨bs, 0, none⟩) (bkK S) cl 9 1 (((bkL S).1).map Value.string) :: .cells br [.string (S.extract ((bkL S).2).1 S.size), .int .i64 ((bkL S).2).2] :: .cells b2 [.int .i64 0, .string ⟨#[]⟩, .slice none 0 0] :: rowsQ 97 56 135 l) _)) ?_
            refine jc_region ?_
            refine jz ?_
            refine jz ?_
            refine jz ?_
            refine jl_m rfl (by decide) rfl (m_buildSlice (size := 6) (by decide) (Built.agg rfl rfl rfl (by repeat constructor) Built.nil)) (fun b83 => ?_)
            refine jl_m2 rfl (by decide) rfl (m_append rfl rfl (by first | exact del0 | exact del1 | exact del2 | exact del3 | exact del4) (by first | exact del0 | exact del1 | exact del2 | exact del3 | exact del4) rfl (by omega) (by omega)) (fun a84 c84 => ?_)
            refine jz ?_
            refine jst ?_
            refine jl_nil ?_
            refine jq_block ?_
            refine jq_then ?_
            refine jc_region ?_
            refine jy (y_add_fits rfl rfl (by simp only [fits]; omega)) ?_
            refine jz ?_
            refine jl_nil ?_
            refine jq_round4 (i := j) (j := l) (l := a7) (m := c7) (j + 1) (l ++ [⟨txDec (bkL S).1[j], pd.1.1, pd.1.2, pd.2.1.1, pd.2.1.2, pd.2.2.1, pd.2.2.2⟩]) a84 c84 ?_ ?_ ?_
            ·omega
            ·exact ⟨rfl, rfl, rfl, rfl, rfl, rfl, rfl, lk_int rfl (by omega), trivial⟩
            ·exact fun _ h => ⟨⟨by omega, txs_next hlt hj.2.1, err_next hlt hj.2.2 (Decidable.not_not.1 h77)⟩, (Hp.snocQ (ti := 97) (to := 56) (tw := 135) (F := [.row a84 (l.length + 1) c84 53 6 (l.flatMap Txq.c ++ Txq.c ⟨txDec (bkL S).1[j], pd.1.1, pd.1.2, pd.2.1.1, pd.2.1.2, pd.2.2.1, pd.2.2.2⟩), .cells b7 [.int .i64 (intV (nuV S (bkS S))), .string (haV S (bkB S)), .slice a84 (l.length + 1) c84], .row (some ⟨bs, 0, none⟩) (bkK S) cl 9 1 (((bkL S).1).map Value.string), .cells br [.string (S.extract ((bkL S).2).1 S.size), .int .i64 ((bkL S).2).2], .cells b2 [.int .i64 0, .string ⟨#[]⟩, .slice none 0 0]]) ⟨txDec (bkL S).1[j], pd.1.1, pd.1.2, pd.2.1.1, pd.2.1.2, pd.2.2.1, pd.2.2.2⟩ (Hp.partA [_, _, _, _, _, _, _, _, _] [.row pd.1.1 (txDec (bkL S).1[j]).ins.length pd.1.2 97 4 ((txDec (bkL S).1[j]).ins.flatMap Inp.c), .row pd.2.1.1 (txDec (bkL S).1[j]).outs.length pd.2.1.2 56 9 ((txDec (bkL S).1[j]).outs.flatMap Oup.c), .row pd.2.2.1 (txDec (bkL S).1[j]).pf.wins.length pd.2.2.2 135 10 ((txDec (bkL S).1[j]).pf.wins.flatMap Wn.c), .row a84 (l.length + 1) c84 53 6 (l.flatMap Txq.c ++ Txq.c ⟨txDec (bkL S).1[j], pd.1.1, pd.1.2, pd.2.1.1, pd.2.1.2, pd.2.2.1, pd.2.2.2⟩), .cells b7 [.int .i64 (intV (nuV S (bkS S))), .string (haV S (bkB S)), .slice a84 (l.length + 1) c84], .row (some ⟨bs, 0, none⟩) (bkK S) cl 9 1 (((bkL S).1).map Value.string), .cells br [.string (S.extract ((bkL S).2).1 S.size), .int .i64 ((bkL S).2).2], .cells b2 [.int .i64 0, .string ⟨#[]⟩, .slice none 0 0]] h (.cons del3 (.cons del3 (.cons del3 (.cons del0 (.cons del1 (.cons del1 (.cons del1 (.cons del1 .nil)))))))))).cast (by rw [List.length_append, List.flatMap_append]; simp)⟩
            )
          )
        ·first
         | (exfalso; omega)
         | (
          refine jnt ?_
          refine jc_seq ?_
          refine jc_false rfl ?_
          refine jc_exit ?_
          refine jq_then_exit ?_
          refine jq_then_exit ?_
          refine jq_hit ?_
          refine jq_then ?_
          refine jc_seq ?_
          refine jc_seq ?_
          have hje : j = bkK S := by omega
          rw [List.take_of_length_le (by omega)] at hj
          have hq : (⟨(intV (nuV S (bkS S))), (haV S (bkB S)), l, a7, c7⟩ : Blq).b = rdBk S := congrArg (Blk.mk (intV (nuV S (bkS S))) (haV S (bkB S))) hj.2.1
          have hll : l.length ≤ 1000000 := by have := congrArg List.length hj.2.1; rw [List.length_map, List.length_map] at this; omega
          have hlow : ∀ x ∈ l, Low x.t := fun x hx => by
           have hm : x.t ∈ (bkL S).1.map txDec := hj.2.1 ▸ List.mem_map.2 ⟨x, hx, rfl⟩
           obtain ⟨y, hy, e⟩ := List.mem_map.1 hm
           rw [← e]; exact low_right (enc_dec (hj.2.2 y hy)).1
          have hf0 := firstE_all hj.2.2
          refine jc_region ?_
          refine jz ?_
          refine jy (y_neq rfl rfl) ?_
          refine jl_prop (fun h88 => ?_) (fun h88 => ?_)
          ·first
           | (exfalso; omega)
           | (
            refine jz ?_
            refine jsk ?_
            refine jsk ?_
            refine jsk ?_
            refine jy (y_pick_true rfl rfl) ?_
            refine jz ?_
            refine jsk ?_
            refine jsk ?_
            refine jsk ?_
            refine jy (y_pick_true rfl rfl) ?_
            refine jnt ?_
            refine jc_true rfl ?_
            refine jsr ?_
            refine jy (y_build Built.nil) ?_
            refine jst ?_
            refine jz ?_
            refine jnt ?_
            refine jc_ret ?_
            refine jq_then_ret ?_
            refine jq_res (.inl rfl) rfl (.cell rfl (by first | exact ld_agg (by first | exact mem0 | exact mem1 | exact mem2 | exact mem3 | exact mem4 | exact mem5) (by repeat constructor) | exact ld_agg (by first | exact mem0 | exact mem1 | exact mem2 | exact mem3 | exact mem4 | exact mem5) (by assumption)) (.tmp rfl .nil)) ?_
            exact fun _ hw => (by have ht := bkErr_26 hb hc2 hf0 (by first | exact .inl (by omega) | exact .inr (.inl (by omega)) | exact .inr (.inr (by rw [← hq]; simp_all))); have hz : bkErr S ≠ 0 := (by rw [ht]; first | decide | assumption | omega); exact ⟨bq0, by rw [ht]; rfl, (bkDec_bad hz).symm, (Hp.of_ch hw.ch).nilrow 53 6⟩)
            )
          ·first
           | (exfalso; omega)
           | (
            refine jz ?_
            refine jz ?_
            refine jpc (goes_func rfl) (fun w1 hw1 => cleft3_any br S (bkL S).2 w1 (bkL_ok S (bkK S)) (CellAt.of_cells (hw1.get (A := .cells br [.string (S.extract ((bkL S).2).1 S.size), .int .i64 ((bkL S).2).2]) mem3) rfl)) ?_
            refine jy (y_gtr rfl rfl) ?_
            refine jl_prop (fun h92 => ?_) (fun h92 => ?_)
            ·first
             | (exfalso; omega)
             | (
              refine jy (y_pick_false rfl rfl) ?_
              refine jz ?_
              refine jsk ?_
              refine jsk ?_
              refine jsk ?_
              refine jy (y_pick_true rfl rfl) ?_
              refine jnt ?_
              refine jc_true rfl ?_
              refine jsr ?_
              refine jy (y_build Built.nil) ?_
              refine jst ?_
              refine jz ?_
              refine jnt ?_
              refine jc_ret ?_
              refine jq_then_ret ?_
              refine jq_res (.inl rfl) rfl (.cell rfl (by first | exact ld_agg (by first | exact mem0 | exact mem1 | exact mem2 | exact mem3 | exact mem4 | exact mem5) (by repeat constructor) | exact ld_agg (by first | exact mem0 | exact mem1 | exact mem2 | exact mem3 | exact mem4 | exact mem5) (by assumption)) (.tmp rfl .nil)) ?_
              exact fun _ hw => (by have ht := bkErr_26 hb hc2 hf0 (by first | exact .inl (by omega) | exact .inr (.inl (by omega)) | exact .inr (.inr (by rw [← hq]; simp_all))); have hz : bkErr S ≠ 0 := (by rw [ht]; first | decide | assumption | omega); exact ⟨bq0, by rw [ht]; rfl, (bkDec_bad hz).symm, (Hp.of_ch hw.ch).nilrow 53 6⟩)
              )
            ·first
             | (exfalso; omega)
             | (
              refine jy (y_pick_false rfl rfl) ?_
              refine jz ?_
              refine jz ?_
              refine jpc (goes_func rfl) (fun w1 hw1 => bkright_any (⟨(intV (nuV S (bkS S))), (haV S (bkB S)), l, a7, c7⟩ : Blq) w1 hll (TxsAt.of_own (n := l.length) (ti := 97) (to := 56) (tw := 135) hw1 mem0 rfl (fun A hA => (.tail _ (.tail _ (.tail _ (.tail _ (.tail _ hA))))))) hlow) ?_
              refine jl_bool (fun h96 => ?_) (fun h96 => ?_)
              ·skip
               refine jz ?_
               refine jy (y_pick_false rfl rfl) ?_
               refine jnt ?_
               refine jc_false rfl ?_
               refine jc_skip ?_
               refine jq_then ?_
               refine jsr ?_
               refine jz ?_
               refine jst ?_
               refine jz ?_
               refine jnt ?_
               refine jc_ret ?_
               refine jq_res (.inl rfl) rfl (.cell rfl (by first | exact ld_agg (by first | exact mem0 | exact mem1 | exact mem2 | exact mem3 | exact mem4 | exact mem5) (by repeat constructor) | exact ld_agg (by first | exact mem0 | exact mem1 | exact mem2 | exact mem3 | exact mem4 | exact mem5) (by assumption)) (.tmp rfl .nil)) ?_
               exact fun _ hw => (by have ht := bkErr_27 (S := S) hb hc2 hf0 (by rintro (q | q | q); (first | omega); (first | omega); exact q (by rw [← hq]; simp_all)); exact ⟨(⟨(intV (nuV S (bkS S))), (haV S (bkB S)), l, a7, c7⟩ : Blq), by rw [ht]; rfl, by unfold bkDec; rw [if_pos ht]; exact hq, (Hp.partA [_, _, _, _, _] [.row a7 (l).length c7 53 6 ((l).flatMap Txq.c)] hw (.cons del0 .nil) : Hp w [] (.row a7 (l).length c7 53 6 ((l).flatMap Txq.c) :: rowsQ 97 56 135 l) _)⟩)
              ·skip
               refine jz ?_
               refine jy (y_pick_false rfl rfl) ?_
               refine jnt ?_
               refine jc_true rfl ?_
               refine jsr ?_
               refine jy (y_build Built.nil) ?_
               refine jst ?_
               refine jz ?_
               refine jnt ?_
               refine jc_ret ?_
               refine jq_then_ret ?_
               refine jq_res (.inl rfl) rfl (.cell rfl (by first | exact ld_agg (by first | exact mem0 | exact mem1 | exact mem2 | exact mem3 | exact mem4 | exact mem5) (by repeat constructor) | exact ld_agg (by first | exact mem0 | exact mem1 | exact mem2 | exact mem3 | exact mem4 | exact mem5) (by assumption)) (.tmp rfl .nil)) ?_
               exact fun _ hw => (by have ht := bkErr_26 hb hc2 hf0 (by first | exact .inl (by omega) | exact .inr (.inl (by omega)) | exact .inr (.inr (by rw [← hq]; simp_all))); have hz : bkErr S ≠ 0 := (by rw [ht]; first | decide | assumption | omega); exact ⟨bq0, by rw [ht]; rfl, (bkDec_bad hz).symm, (Hp.of_ch hw.ch).nilrow 53 6⟩)
              )
            )
          )
      ·skip
       refine jc_seq ?_
       have hie : i = bkK S := by omega
       subst hie
       refine jc_world (fun _ h => h.cast (H' := [.row al (bkK S) cl 9 1 (((bkL S).1).map Value.string), .cells b7 [.int .i64 (intV (nuV S (bkS S))), .string (haV S (bkB S)), .slice none 0 0], .cells br [.string (S.extract ((bkL S).2).1 S.size), .int .i64 ((bkL S).2).2], .cells b2 [.int .i64 0, .string ⟨#[]⟩, .slice none 0 0]]) rfl) ?_
       refine jc_region ?_
       refine jz ?_
       refine jpc (goes_func rfl) (fun w1 hw1 => cend_any br S (bkL S).2 w1 (bkL_ok S (bkK S)) (CellAt.of_cells (hw1.get (A := .cells br [.string (S.extract ((bkL S).2).1 S.size), .int .i64 ((bkL S).2).2]) mem2) rfl) (CellAt.of_cells (hw1.get (A := .cells br [.string (S.extract ((bkL S).2).1 S.size), .int .i64 ((bkL S).2).2]) mem2) rfl)) ?_
       refine jz ?_
       refine jnt ?_
       refine jsr ?_
       refine jz ?_
       refine jy (y_neq rfl rfl) ?_
       refine jl_prop (fun h54 => ?_) (fun h54 => ?_)
       ·first
        | (exfalso; omega)
        | (
         refine jz ?_
         refine jz ?_
         refine jy (y_neq rfl rfl) ?_
         refine jl_prop (fun h57 => ?_) (fun h57 => ?_)
         ·first
          | (exfalso; omega)
          | (
           refine jy (y_pick_true rfl rfl) ?_
           refine jz ?_
           refine jsk ?_
           refine jsk ?_
           refine jy (y_pick_true rfl rfl) ?_
           refine jnt ?_
           refine jc_true rfl ?_
           refine jsr ?_
           refine jy (y_build Built.nil) ?_
           refine jz ?_
           refine jst ?_
           refine jz ?_
           refine jnt ?_
           refine jc_ret ?_
           refine jq_then_ret ?_
           refine jq_res (.inl rfl) rfl (.cell rfl (by first | exact ld_agg (by first | exact mem0 | exact mem1 | exact mem2 | exact mem3 | exact mem4 | exact mem5) (by repeat constructor) | exact ld_agg (by first | exact mem0 | exact mem1 | exact mem2 | exact mem3 | exact mem4 | exact mem5) (by assumption)) (.tmp rfl .nil)) ?_
           exact fun _ hw => (by have ht := (bkErr_16 hb (by omega)).1; have hz : bkErr S ≠ 0 := (by rw [ht]; first | exact (bkErr_16 hb (by omega)).2 | decide | assumption | omega); exact ⟨bq0, by rw [ht]; rfl, (bkDec_bad hz).symm, (Hp.of_ch hw.ch).nilrow 53 6⟩)
           )
         ·first
          | (exfalso; omega)
          | (
           refine jy (y_pick_true rfl rfl) ?_
           refine jz ?_
           refine jz ?_
           refine jy (y_gtr rfl rfl) ?_
           refine jl_prop (fun h61 => ?_) (fun h61 => ?_)
           ·first
            | (exfalso; omega)
            | (
             refine jy (y_pick_false rfl rfl) ?_
             refine jnt ?_
             refine jc_true rfl ?_
             refine jsr ?_
             refine jy (y_build Built.nil) ?_
             refine jz ?_
             refine jst ?_
             refine jz ?_
             refine jnt ?_
             refine jc_ret ?_
             refine jq_then_ret ?_
             refine jq_res (.inl rfl) rfl (.cell rfl (by first | exact ld_agg (by first | exact mem0 | exact mem1 | exact mem2 | exact mem3 | exact mem4 | exact mem5) (by repeat constructor) | exact ld_agg (by first | exact mem0 | exact mem1 | exact mem2 | exact mem3 | exact mem4 | exact mem5) (by assumption)) (.tmp rfl .nil)) ?_
             exact fun _ hw => (by have ht := (bkErr_16 hb (by omega)).1; have hz : bkErr S ≠ 0 := (by rw [ht]; first | exact (bkErr_16 hb (by omega)).2 | decide | assumption | omega); exact ⟨bq0, by rw [ht]; rfl, (bkDec_bad hz).symm, (Hp.of_ch hw.ch).nilrow 53 6⟩)
             )
           ·first
            | (exfalso; omega)
            | (
             refine jy (y_pick_false rfl rfl) ?_
             refine jnt ?_
             refine jc_false rfl ?_
             refine jc_skip ?_
             refine jq_join ?_ ?_
             ·exact ⟨rfl, rfl, rfl, rfl, rfl, rfl, rfl, rfl, trivial⟩
             ·exact fun _ h => ⟨by omega, h⟩
             )
           )
         )
       ·first
        | (exfalso; omega)
        | (
         refine jz ?_
         refine jsk ?_
         refine jsk ?_
         refine jy (y_pick_false rfl rfl) ?_
         refine jz ?_
         refine jz ?_
         refine jy (y_gtr rfl rfl) ?_
         refine jl_prop (fun h61 => ?_) (fun h61 => ?_)
         ·first
          | (exfalso; omega)
          | (
           refine jy (y_pick_false rfl rfl) ?_
           refine jnt ?_
           refine jc_true rfl ?_
           refine jsr ?_
           refine jy (y_build Built.nil) ?_
           refine jz ?_
           refine jst ?_
           refine jz ?_
           refine jnt ?_
           refine jc_ret ?_
           refine jq_then_ret ?_
           refine jq_res (.inl rfl) rfl (.cell rfl (by first | exact ld_agg (by first | exact mem0 | exact mem1 | exact mem2 | exact mem3 | exact mem4 | exact mem5) (by repeat constructor) | exact ld_agg (by first | exact mem0 | exact mem1 | exact mem2 | exact mem3 | exact mem4 | exact mem5) (by assumption)) (.tmp rfl .nil)) ?_
           exact fun _ hw => (by have ht := (bkErr_16 hb (by omega)).1; have hz : bkErr S ≠ 0 := (by rw [ht]; first | exact (bkErr_16 hb (by omega)).2 | decide | assumption | omega); exact ⟨bq0, by rw [ht]; rfl, (bkDec_bad hz).symm, (Hp.of_ch hw.ch).nilrow 53 6⟩)
           )
         ·first
          | (exfalso; omega)
          | (
           refine jy (y_pick_false rfl rfl) ?_
           refine jnt ?_
           refine jc_false rfl ?_
           refine jc_skip ?_
           refine jq_join ?_ ?_
           ·exact ⟨rfl, rfl, rfl, rfl, rfl, rfl, rfl, rfl, trivial⟩
           ·exact fun _ h => ⟨by omega, h⟩
           )
         )
      )
  ·skip
   refine jc_seq ?_
   refine jc_world (fun _ h => h.cast (H' := [.cells b7 [.int .i64 (intV (nuV S (bkS S))), .string (haV S (bkB S)), .slice none 0 0], .cells br [.string (S.extract (bkD S).1 S.size), .int .i64 (bkD S).2], .cells b2 [.int .i64 0, .string ⟨#[]⟩, .slice none 0 0]]) rfl) ?_
   refine jc_region ?_
   refine jz ?_
   refine jy (y_gtr rfl rfl) ?_
   refine jl_prop (fun h38 => ?_) (fun h38 => ?_)
   ·first
    | (exfalso; omega)
    | (
     refine jnt ?_
     refine jc_true rfl ?_
     refine jc_region ?_
     refine jz ?_
     refine jl_ucallH rfl (by decide) rfl (goes_func rfl) (by rfl) (fun w1 hw1 => cfail_any br _ _ 4 w1 (hw1.get mem1)) (by first | exact rep0 | exact rep1 | exact rep2 | exact rep3 | exact rep4 | exact rep5) ?_
     refine jl_nil ?_
     refine jq_join ?_ ?_
     ·exact ⟨rfl, rfl, rfl, rfl, rfl, rfl, rfl, trivial⟩
     ·first | exact fun _ h => h.cast (by unfold bkE; rw [if_pos (by omega)]; rfl) | exact fun _ h => h.cast (by unfold bkE; rw [if_neg (by omega)])
     )
   ·first
    | (exfalso; omega)
    | (
     refine jnt ?_
     refine jc_false rfl ?_
     refine jc_skip ?_
     refine jq_join ?_ ?_
     ·exact ⟨rfl, rfl, rfl, rfl, rfl, rfl, rfl, trivial⟩
     ·first | exact fun _ h => h.cast (by unfold bkE; rw [if_pos (by omega)]; rfl) | exact fun _ h => h.cast (by unfold bkE; rw [if_neg (by omega)])
     )
 ·skip
  refine jc_seq ?_
  refine jc_world (fun _ h => h.cast (H' := [.cells br [.string (S.extract (r00).1 S.size), .int .i64 (r00).2], .cells b2 [.int .i64 0, .string ⟨#[]⟩, .slice none 0 0]]) (by rw [ext_all])) ?_
  refine jc_region ?_
  refine jz ?_
  refine jy (y_sneq rfl rfl) ?_
  refine jl_bool (fun h18 => ?_) (fun h18 => ?_)
  ·skip
   refine jz ?_
   refine jz ?_
   refine juc (goes_func rfl) (fun w1 hw1 => cbyte_any br S r00 w1 hS (r00_ok S) hw1) ?_
   refine jy (y_neq rfl rfl) ?_
   refine jl_prop (fun h22 => ?_) (fun h22 => ?_)
   ·first
    | (exfalso; omega)
    | (
     refine jy (y_pick_true rfl rfl) ?_
     refine jnt ?_
     refine jc_true rfl ?_
     refine jsr ?_
     refine jy (y_build Built.nil) ?_
     refine jst ?_
     refine jz ?_
     refine jnt ?_
     refine jc_ret ?_
     refine jq_then_ret ?_
     refine jq_res (.inl rfl) rfl (.cell rfl (by first | exact ld_agg (by first | exact mem0 | exact mem1 | exact mem2 | exact mem3 | exact mem4 | exact mem5) (by repeat constructor) | exact ld_agg (by first | exact mem0 | exact mem1 | exact mem2 | exact mem3 | exact mem4 | exact mem5) (by assumption)) (.tmp rfl .nil)) ?_
     exact fun _ hw => (by have ht := bkErr_3 (S := S) ⟨by simpa using h18, by assumption⟩; have hz : bkErr S ≠ 0 := (by rw [ht]; first | decide | assumption | omega); exact ⟨bq0, by rw [ht]; rfl, (bkDec_bad hz).symm, (Hp.of_ch hw.ch).nilrow 53 6⟩)
     )
   ·first
    | (exfalso; omega)
    | (
     refine jy (y_pick_true rfl rfl) ?_
     refine jnt ?_
     refine jc_false rfl ?_
     refine jc_skip ?_
     refine jq_join ?_ ?_
     ·exact ⟨rfl, rfl, rfl, trivial⟩
     ·first | exact fun _ h => ⟨fun e => absurd e.2 (by assumption), h.cast (by unfold bkS; rw [if_neg (by simpa using h18)])⟩ | exact fun _ h => ⟨fun e => e.1 (by simpa using h18), h.cast (by unfold bkS; rw [if_pos (by simpa using h18)])⟩
     )
  ·skip
   refine jz ?_
   refine jsk ?_
   refine jsk ?_
   refine jsk ?_
   refine jy (y_pick_false rfl rfl) ?_
   refine jnt ?_
   refine jc_false rfl ?_
   refine jc_skip ?_
   refine jq_join ?_ ?_
   ·exact ⟨rfl, rfl, rfl, trivial⟩
   ·first | exact fun _ h => ⟨fun e => absurd e.2 (by assumption), h.cast (by unfold bkS; rw [if_neg (by simpa using h18)])⟩ | exact fun _ h => ⟨fun e => e.1 (by simpa using h18), h.cast (by unfold bkS; rw [if_pos (by simpa using h18)])⟩

end Go.Proofs.YtomhcibbalhgkaaGreat

namespace Go.Proofs.YtomhcibbalhgkaaGreat
open Go.RowKit
set_option maxRecDepth 100000
set_option maxHeartbeats 2000000
set_option linter.unusedVariables false
set_option linter.unusedSimpArgs false
attribute [local irreducible] Yields Makes Writes
def ctBk (b : Blk) : Blk := ⟨b.height, cutS b.prev 40, (b.txs.take 9).map ctTx⟩
theorem take_top {α : Type} {l : List α} {i n : Nat} (h : i ≤ l.length ∧ i ≤ n) (h2 : l.length ≤ i ∨ n ≤ i) : l.take i = l.take n := by
  rcases h2 with h2 | h2
  · rw [List.take_of_length_le h2, List.take_of_length_le (by omega)]
  · rw [show i = n by omega]
theorem ct_next {l m : List Txq} {i : Nat} {q : Txq} (h : i < l.length) (e : txsQ m = ((txsQ l).take i).map ctTx) (hq : q.t = ctTx l[i].t := by rfl) : txsQ (m ++ [q]) = ((txsQ l).take (i + 1)).map ctTx := by
  have h1 : txsQ (m ++ [q]) = txsQ m ++ [q.t] := by simp
  rw [h1, List.take_succ_eq_append_getElem (by rw [List.length_map]; exact h), List.map_append, e, hq, List.getElem_map]; rfl
theorem bkdec_sub (S : ByteArray) (w : World) (hS : S.size ≤ 1000000000) : Calls Tryz.prog 52 #[.string S] w fun e w' => ∃ q : {q : Blq // q.b = bkDec S}, e = .returned (.tuple #[.agg (Blq.c q.1).toArray, .int .i64 (bkErr S)]) ∧ Hp w [] (q.1.rows 53 97 56 135) w' :=
  (bkdec_any S w hS).mono fun _ _ ⟨q, h1, h2, h3⟩ => ⟨⟨q, h2⟩, h1, h3⟩
theorem low_dec {q : Blq} {S : ByteArray} (h : q.b = bkDec S) : (∀ x ∈ q.l, Low x.t) ∧ (∀ x ∈ q.l, x.t.Fit) ∧ q.l.length ≤ 8 ∧ fits .i64 q.height := by
  have ht : txsQ q.l = (bkDec S).txs := congrArg Blk.txs h
  have hh : q.height = (bkDec S).height := congrArg Blk.height h
  have hl : q.l.length = (bkDec S).txs.length := by rw [← ht, List.length_map]
  by_cases e : bkErr S = 0
  · have hr := (bkEnc_dec e).1
    obtain ⟨r1, r2, r3, r4, r5⟩ := bkRight_iff.1 hr
    refine ⟨fun x hx => low_right (r5 x.t (by rw [← ht]; exact List.mem_map.2 ⟨x, hx, rfl⟩)), fun x hx => ?_, by omega, by rw [hh]; simp only [fits]; omega⟩
    have hm : x.t ∈ (bkL S).1.map txDec := by
      have h2 : x.t ∈ (bkDec S).txs := by rw [← ht]; exact List.mem_map.2 ⟨x, hx, rfl⟩
      unfold bkDec at h2; rw [if_pos e] at h2; exact h2
    obtain ⟨y, _, e2⟩ := List.mem_map.1 hm
    rw [← e2]; exact txDec_fit y
  · have h0 : (bkDec S) = bk0 := bkDec_bad e
    rw [h0] at ht hh hl
    have hn : q.l = [] := List.length_eq_zero_iff.1 hl
    rw [hn]
    refine ⟨fun x hx => (by cases hx), fun x hx => (by cases hx), by simp, by rw [hh]; exact ⟨by decide, by decide⟩⟩

theorem cutbk_of (qh : Int) (qp : ByteArray) (l : List Txq) (ad : Option Addr) (cp : Nat) (w : World) (hE : TxsAt w ad l) :
  Calls Tryz.prog 4 #[.agg (Blq.c ⟨qh, qp, l, ad, cp⟩).toArray] w fun e w' => ∃ q : {q : Blq // q.b = ctBk (Blq.b ⟨qh, qp, l, ad, cp⟩)}, e = .returned (.agg (Blq.c q.1).toArray) ∧ Hp w [] (q.1.rows 53 97 56 135) w' := by
 refine calls_of (n := 38) (E := [(0, .agg (Blq.c ⟨qh, qp, l, ad, cp⟩).toArray)]) (W := Hp w [] []) Tryz.func4 rfl rfl (Nat.le_of_ble_eq_true rfl) rfl (Hp.nil _ _) ?_
 refine jsr ?_
 refine jl_m rfl (by decide) rfl (m_box rfl rfl) (fun b1 => ?_)
 refine jl_m rfl (by decide) rfl (m_alloc) (fun b2 => ?_)
 refine jnt ?_
 refine jc_seq ?_
 refine jc_sched 11 [(0, true), (1, true), (2, true), (3, true), (4, true), (5, true), (6, true), (7, true), (8, true), (9, true), (10, false)] rfl (by kernel_rfl) (fun _ _ _ _ h => h) (fun _ h => h.drew) ?_
 simp only [pickO, nthO, List.drop_succ_cons, List.drop_zero]
 refine jkz ?_
 refine jkz ?_
 refine jkz ?_
 refine jkz ?_
 refine jkz ?_
 refine jkz ?_
 refine jky (y_len_str rfl) ?_
 refine jky (y_min rfl rfl) ?_
 refine jky (y_substr_hi rfl rfl (by omega) (by omega)) ?_
 refine js_as (congrArg Value.string (cut_eq _ 40)) ?_
 refine jky (y_build (Built.cell rfl rfl rfl (by repeat constructor) (Built.cell rfl rfl rfl (by repeat constructor) Built.nil))) ?_
 refine js_m (by intros; rename_i h; first | exact h | exact h.pop | exact h.pop.pop | exact h.pop.pop.pop | exact h.pop.pop.pop.pop | exact h.pop.pop.pop.pop.pop | exact h.pop.pop.pop.pop.pop.pop | exact h.part .nil) rfl (by decide) rfl (m_alloc) (fun b3 => ?_)
 refine js_nil ?_
 refine jst ?_
 refine jnt ?_
 refine jc_seq ?_
 refine jsr ?_
 refine jz ?_
 refine jnt ?_
 refine jc_block ?_
 refine jc_loop4 (fun (i : Nat) (m : List Txq) (au : Option Addr) (cu : Nat) => [(1, .pointer (some ⟨b1, 0, none⟩)), (2, .pointer (some ⟨b2, 0, none⟩)), (3, .pointer (some ⟨b3, 0, none⟩)), (4, .int .i64 (i : Nat))]) (fun (i : Nat) (m : List Txq) (au : Option Addr) (cu : Nat) => fun w' => ((i ≤ l.length ∧ i ≤ 9) ∧ m.length = i ∧ txsQ m = ((txsQ l).take i).map ctTx) ∧ Hp w [] (.row au (m).length cu 53 6 ((m).flatMap Txq.c) :: .cells b3 [.int .i64 qh, .string (cutS qp 40), .slice au m.length cu] :: .cells b2 [.int .i64 0, .string ⟨#[]⟩, .slice none 0 0] :: .cells b1 (Blq.c ⟨qh, qp, l, ad, cp⟩) :: rowsQ 97 56 135 m) w') (fun (i : Nat) (m : List Txq) (au : Option Addr) (cu : Nat) => 9 - i) 0 [] none 0 ?_ ?_ ?_
 ·exact ⟨rfl, rfl, rfl, rfl, trivial⟩
 ·exact fun _ h => ⟨⟨by omega, rfl, rfl⟩, h.nilrow 53 6⟩
 ·intro i m au cu
  refine jc_and (fun hi => ?_)
  refine jc_seq ?_
  refine jsr ?_
  refine jz ?_
  refine jz ?_
  refine jz ?_
  refine jy (y_len_slice rfl) ?_
  refine jl_as (u := .int .i64 ((l.length : Nat) : Int)) rfl ?_
  refine jy (y_lss rfl rfl) ?_
  refine jl_prop (fun h19 => ?_) (fun h19 => ?_)
  ·first
   | (exfalso; omega)
   | (
    have hlt : i < l.length := by omega
    obtain ⟨bb, oo, ea, hold⟩ := hE.get hlt
    subst ea
    have hqa := hE.each _ (List.getElem_mem hlt)
    have hcn := @ct_next l m i
    generalize hxe : l[i]'hlt = q at *
    refine jz ?_
    refine jz ?_
    refine jy (y_lss rfl rfl) ?_
    refine jl_prop (fun h22 => ?_) (fun h22 => ?_)
    ·first
     | (exfalso; omega)
     | (
      refine jy (y_pick_true rfl rfl) ?_
      refine jnt ?_
      refine jc_true rfl ?_
      refine jc_skip ?_
      refine jq_then ?_
      refine jc_seq ?_
      refine jc_block ?_
      refine jc_schedC (Hp w [] [.cells b3 [.int .i64 qh, .string (cutS qp 40), .slice au m.length cu], .cells b1 (Blq.c ⟨qh, qp, l, some ⟨bb, oo, none⟩, cp⟩)]) 11 [(0, true), (1, true), (2, true), (3, true), (4, true), (5, true), (6, true), (7, false), (8, false), (9, false), (10, true)] rfl (by kernel_rfl) (fun _ _ _ _ h => h) (fun _ h => (h.part (.cons (by first | exact del0 | exact del1 | exact del2 | exact del3 | exact del4 | exact .tail del4 | exact .tail (.tail del4) | exact .tail (.tail (.tail del4))) (.cons (by first | exact del0 | exact del1 | exact del2 | exact del3 | exact del4 | exact .tail del4 | exact .tail (.tail del4) | exact .tail (.tail (.tail del4))) .nil))).drew) (fun _ h => h.drew) ?_
      simp only [pickO, nthO, List.drop_succ_cons, List.drop_zero]
      refine jkz ?_
      refine jkz ?_
      refine jkz ?_
      refine jkz ?_
      refine jkz ?_
      refine jky (y_indexAddr_slice (off := oo + i * 6) rfl rfl (by omega) (by omega) (by omega)) ?_
      refine jky (y_loadAgg_old rfl rfl hold (by simp)) ?_
      refine js_gcall3 (by intros; rename_i h; exact h.part (.cons (by first | exact del0 | exact del1 | exact del2 | exact del3 | exact del4 | exact .tail del4 | exact .tail (.tail del4) | exact .tail (.tail (.tail del4))) (.cons (by first | exact del0 | exact del1 | exact del2 | exact del3 | exact del4 | exact .tail del4 | exact .tail (.tail del4) | exact .tail (.tail (.tail del4))) .nil))) rfl (by decide) rfl (goes_func rfl) (fun w1 hw1 => cuttx_any q.t q.a1 q.c1 q.a2 q.c2 q.a3 q.c3 w1 (hqa.ins.keep hw1) (hqa.outs.keep hw1) (hqa.wins.keep hw1)) (fun pd => ?_)
      refine js_m (by intros; rename_i h; exact h.part (.cons (by first | exact del0 | exact del1 | exact del2 | exact del3 | exact del4 | exact .tail del4 | exact .tail (.tail del4) | exact .tail (.tail (.tail del4))) (.cons (by first | exact del0 | exact del1 | exact del2 | exact del3 | exact del4 | exact .tail del4 | exact .tail (.tail del4) | exact .tail (.tail (.tail del4))) .nil))) rfl (by decide) rfl (m_buildSlice (size := 6) (by decide) (Built.agg rfl rfl rfl (by repeat constructor) Built.nil)) (fun b34 => ?_)
      refine js_m2z rfl (by decide) rfl (m_append rfl rfl (by first | exact del0 | exact del1 | exact del2 | exact del3 | exact del4) (by first | exact del0 | exact del1 | exact del2 | exact del3 | exact del4) rfl (by omega) (by omega)) (by intros; rename_i h; exact h.part (.cons (by first | exact del0 | exact del1 | exact del2 | exact del3 | exact del4 | exact .tail del4 | exact .tail (.tail del4) | exact .tail (.tail (.tail del4))) (.cons (by first | exact del0 | exact del1 | exact del2 | exact del3 | exact del4 | exact .tail del4 | exact .tail (.tail del4) | exact .tail (.tail (.tail del4))) .nil))) (fun a35 c35 => ?_)
      refine jkz ?_
      refine js_nil ?_
      refine jst ?_
      refine jl_nil ?_
      refine jq_block ?_
      refine jq_then ?_
      refine jc_region ?_
      refine jz ?_
      refine jy (y_add_fits rfl rfl (by simp only [fits]; omega)) ?_
      refine jz ?_
      refine jl_nil ?_
      refine jq_round4 (i := i) (j := m) (l := au) (m := cu) (i + 1) (m ++ [⟨ctTx q.t, pd.1.1, pd.1.2, pd.2.1.1, pd.2.1.2, pd.2.2.1, pd.2.2.2⟩]) a35 c35 ?_ ?_ ?_
      ·omega
      ·exact ⟨rfl, rfl, rfl, lk_int rfl (by omega), trivial⟩
      ·exact fun _ h => ⟨⟨by omega, by rw [List.length_append, hi.2.1]; rfl, hcn hlt hi.2.2 (by show ctTx q.t = _; rw [hxe])⟩, (Hp.snocQ (ti := 97) (to := 56) (tw := 135) (F := [.row a35 (m.length + 1) c35 53 6 (m.flatMap Txq.c ++ Txq.c ⟨ctTx q.t, pd.1.1, pd.1.2, pd.2.1.1, pd.2.1.2, pd.2.2.1, pd.2.2.2⟩), .cells b3 [.int .i64 qh, .string (cutS qp 40), .slice a35 (m.length + 1) c35], .cells b2 [.int .i64 0, .string ⟨#[]⟩, .slice none 0 0], .cells b1 (Blq.c ⟨qh, qp, l, some ⟨bb, oo, none⟩, cp⟩)]) ⟨ctTx q.t, pd.1.1, pd.1.2, pd.2.1.1, pd.2.1.2, pd.2.2.1, pd.2.2.2⟩ (Hp.partA [_, _, _, _, _, _, _] [.row pd.1.1 (ctTx q.t).ins.length pd.1.2 97 4 ((ctTx q.t).ins.flatMap Inp.c), .row pd.2.1.1 (ctTx q.t).outs.length pd.2.1.2 56 9 ((ctTx q.t).outs.flatMap Oup.c), .row pd.2.2.1 (ctTx q.t).pf.wins.length pd.2.2.2 135 10 ((ctTx q.t).pf.wins.flatMap Wn.c), .row a35 (m.length + 1) c35 53 6 (m.flatMap Txq.c ++ Txq.c ⟨ctTx q.t, pd.1.1, pd.1.2, pd.2.1.1, pd.2.1.2, pd.2.2.1, pd.2.2.2⟩), .cells b3 [.int .i64 qh, .string (cutS qp 40), .slice a35 (m.length + 1) c35], .cells b2 [.int .i64 0, .string ⟨#[]⟩, .slice none 0 0], .cells b1 (Blq.c ⟨qh, qp, l, some ⟨bb, oo, none⟩, cp⟩)] h (.cons del1 (.cons del1 (.cons del1 (.cons del0 (.cons del0 (.cons del0 (.cons del0 .nil))))))))).cast (by rw [List.length_append, List.flatMap_append]; simp)⟩
      )
    ·first
     | (exfalso; omega)
     | (
      refine jy (y_pick_true rfl rfl) ?_
      refine jnt ?_
      refine jc_false rfl ?_
      refine jc_exit ?_
      refine jq_then_exit ?_
      refine jq_then_exit ?_
      refine jq_hit ?_
      refine jq_then ?_
      refine jsr ?_
      refine jz ?_
      refine jst ?_
      refine jnt ?_
      refine jc_ret ?_
      refine jq_res (.inl rfl) rfl (.cell rfl (by first | exact ld_agg (by first | exact mem0 | exact mem1 | exact mem2 | exact mem3 | exact mem4 | exact mem5) (by repeat constructor) | exact ld_agg (by first | exact mem0 | exact mem1 | exact mem2 | exact mem3 | exact mem4 | exact mem5) (by assumption)) .nil) ?_
      exact fun _ hw => ⟨⟨⟨qh, cutS qp 40, m, au, cu⟩, by show Blk.mk _ _ _ = Blk.mk _ _ _; rw [hi.2.2, take_top (n := 9) (by rw [List.length_map]; exact hi.1) (by rw [List.length_map]; omega)]⟩, rfl, (Hp.partA [_, _, _, _] [.row au (m).length cu 53 6 ((m).flatMap Txq.c)] hw (.cons del0 .nil) : Hp w [] (.row au (m).length cu 53 6 ((m).flatMap Txq.c) :: rowsQ 97 56 135 m) _)⟩
      )
    )
  ·first
   | (exfalso; omega)
   | (
    refine jz ?_
    refine jsk ?_
    refine jsk ?_
    refine jy (y_pick_false rfl rfl) ?_
    refine jnt ?_
    refine jc_false rfl ?_
    refine jc_exit ?_
    refine jq_then_exit ?_
    refine jq_then_exit ?_
    refine jq_hit ?_
    refine jq_then ?_
    refine jsr ?_
    refine jz ?_
    refine jst ?_
    refine jnt ?_
    refine jc_ret ?_
    refine jq_res (.inl rfl) rfl (.cell rfl (by first | exact ld_agg (by first | exact mem0 | exact mem1 | exact mem2 | exact mem3 | exact mem4 | exact mem5) (by repeat constructor) | exact ld_agg (by first | exact mem0 | exact mem1 | exact mem2 | exact mem3 | exact mem4 | exact mem5) (by assumption)) .nil) ?_
    exact fun _ hw => ⟨⟨⟨qh, cutS qp 40, m, au, cu⟩, by show Blk.mk _ _ _ = Blk.mk _ _ _; rw [hi.2.2, take_top (n := 9) (by rw [List.length_map]; exact hi.1) (by rw [List.length_map]; omega)]⟩, rfl, (Hp.partA [_, _, _, _] [.row au (m).length cu 53 6 ((m).flatMap Txq.c)] hw (.cons del0 .nil) : Hp w [] (.row au (m).length cu 53 6 ((m).flatMap Txq.c) :: rowsQ 97 56 135 m) _)⟩
    )

theorem cutbk_any (q : Blq) (w : World) (hE : TxsAt w q.ad q.l) : Calls Tryz.prog 4 #[.agg (Blq.c q).toArray] w fun e w' => ∃ r : {r : Blq // r.b = ctBk q.b}, e = .returned (.agg (Blq.c r.1).toArray) ∧ Hp w [] (r.1.rows 53 97 56 135) w' :=
  cutbk_of q.height q.prev q.l q.ad q.cp w hE
theorem low_cut {q : Blq} {b : Blk} (h : q.b = ctBk b) (hf : ∀ t ∈ b.txs, t.Fit) : (∀ x ∈ q.l, Low x.t) ∧ (∀ x ∈ q.l, x.t.Fit) ∧ q.l.length ≤ 9 := by
  have ht : txsQ q.l = (b.txs.take 9).map ctTx := congrArg Blk.txs h
  have hm : ∀ x ∈ q.l, ∃ y ∈ b.txs, x.t = ctTx y := fun x hx => by
    have h2 : x.t ∈ (b.txs.take 9).map ctTx := by rw [← ht]; exact List.mem_map.2 ⟨x, hx, rfl⟩
    obtain ⟨y, hy, e⟩ := List.mem_map.1 h2
    exact ⟨y, List.mem_of_mem_take hy, e.symm⟩
  refine ⟨fun x hx => ?_, fun x hx => ?_, ?_⟩
  · obtain ⟨y, _, e⟩ := hm x hx
    rw [e]
    have := ctTx_len y
    exact ⟨by omega, by omega, by omega⟩
  · obtain ⟨y, hy, e⟩ := hm x hx
    rw [e]; exact ctTx_fit (hf y hy)
  · have := congrArg List.length ht
    rw [List.length_map, List.length_map, List.length_take] at this
    omega
end Go.Proofs.YtomhcibbalhgkaaGreat

namespace Go.Proofs.YtomhcibbalhgkaaGreat
open Go.RowKit
set_option maxRecDepth 100000
set_option maxHeartbeats 1000000
set_option linter.unusedVariables false
set_option linter.unusedSimpArgs false
attribute [local irreducible] Yields Makes Writes
theorem cqb {P : Program} {f : Nat} {a : Array Value} {w : World} {u v : Value} (h : Calls P f a w fun e w' => e = .returned v ∧ Ch [] w w') (e : v = u) : Calls P f a w fun e w' => e = .returned u ∧ Ch [] w w' := e ▸ h
def fbH : ByteArray := ⟨#[48, 49, 50, 51, 52, 53, 54, 55, 56, 57, 97, 98, 99, 100, 101, 102]⟩
def fbN : ByteArray := ⟨#[0, 0, 0, 0, 0, 0, 1, 2]⟩
def fbB : Blq := ⟨258, fbH, [], none, 0⟩
def fbO : Oup := ⟨1, 1, fbH, ⟨#[]⟩, 0, ⟨#[]⟩, 0, 0, ⟨#[]⟩⟩
def fbE : ByteArray := bkEnc fbB.b
def fbX : ByteArray := fbE ++ ⟨#[120]⟩
def fbY : ByteArray := ⟨#[]⟩
def fbZ : ByteArray := ⟨#[67]⟩
def fbF : ByteArray := ⟨#[0, 0, 0, 0, 0, 0, 0, 1]⟩ ++ fbH
theorem fbE_eq : bkEnc fbB.b = fbE := rfl
theorem fbX_eq : fbE ++ ⟨#[120]⟩ = fbX := rfl
theorem fbY_eq : Value.string ⟨#[]⟩ = .string fbY := rfl
theorem fbZ_eq : Value.string ⟨#[67]⟩ = .string fbZ := rfl
theorem fbF_eq : ⟨#[0, 0, 0, 0, 0, 0, 0, 1]⟩ ++ fbH = fbF := rfl
theorem fbE_size : fbE.size ≤ 100 := by decide +kernel
theorem fbX_size : fbX.size ≤ 100 := by decide +kernel
theorem fb2 : ⟨#[66, 0, 0, 0, 0, 0, 0, 1, 2]⟩ ++ fbH ++ ⟨#[0]⟩ = fbE := by decide +kernel
theorem fb3 : bkErr fbE = 0 := by decide +kernel
theorem fb3d : bkDec fbE = fbB.b := by decide +kernel
theorem fb4 : bkErr fbX = 4 := by decide +kernel
theorem fb5 : bkErr fbY = 3 := by decide +kernel
theorem fb6 : bkErr fbZ = 4 := by decide +kernel
theorem fbR : bkRight fbB.b = true := by decide +kernel
theorem fbR0 : bkRight bq0.b = false := by decide +kernel
theorem fbP : putS 258 = fbN := by decide +kernel
theorem fbID : bkID fbB.b = tagS strBlock [fbN, fbH, ⟨#[]⟩] := by
  unfold bkID
  rw [if_pos fbR]
  show tagS strBlock [putS 258, fbH, ⟨#[]⟩] = _
  rw [fbP]
theorem fbID0 : bkID bq0.b = ⟨#[]⟩ := by unfold bkID; rw [if_neg (by rw [fbR0]; decide)]
theorem fbFst : bkFirst [fbO] = tagS strFirst [fbF] := by
  unfold bkFirst
  rw [show catB ([fbO].map firstS) = fbF by decide +kernel]
theorem fbO_fit : ∀ o ∈ [fbO], o.Fit := fun o ho => by
  rw [List.mem_singleton.1 ho]
  exact ⟨(⟨by decide, by decide⟩ : fits .i64 1), (⟨by decide, by decide⟩ : fits .u64 1), (⟨by decide, by decide⟩ : fits .i64 0), (⟨by decide, by decide⟩ : fits .u64 0), (⟨by decide, by decide⟩ : fits .i64 0)⟩
theorem fbO_key : ∀ o ∈ [fbO], o.key.size ≤ 1000 := fun o ho => by rw [List.mem_singleton.1 ho]; decide
theorem no_tx {p : Txq → Prop} : ∀ x ∈ ([] : List Txq), p x := fun x hx => by cases hx
theorem z16 : fbH.size = 16 := by decide +kernel
theorem bkdec1 (w : World) : Calls Tryz.prog 52 #[.string fbE] w fun e w' => ∃ q : {q : Blq // q.b = fbB.b}, e = .returned (.tuple #[.agg (Blq.c q.1).toArray, .int .i64 0]) ∧ Hp w [] (q.1.rows 53 97 56 135) w' := by
  have h := bkdec_sub fbE w (by have := fbE_size; omega)
  rw [fb3] at h
  exact h.mono fun _ _ ⟨q, h1, h2⟩ => ⟨⟨q.1, q.2.trans fb3d⟩, h1, h2⟩
theorem bkdecE {S : ByteArray} {n : Int} (w : World) (hS : S.size ≤ 1000) (hn : bkErr S = n) : Calls Tryz.prog 52 #[.string S] w fun e w' => ∃ q : Blq, e = .returned (.tuple #[.agg (Blq.c q).toArray, .int .i64 n]) ∧ Hp w [] (q.rows 53 97 56 135) w' := by
  have h := bkdec_any S w (by omega)
  rw [hn] at h
  exact h.mono fun _ _ ⟨q, h1, _, h2⟩ => ⟨q, h1, h2⟩
theorem bkdecY (w : World) : Calls Tryz.prog 52 #[.string ⟨#[]⟩] w fun e w' => ∃ q : Blq, e = .returned (.tuple #[.agg (Blq.c q).toArray, .int .i64 3]) ∧ Hp w [] (q.rows 53 97 56 135) w' := bkdecE (S := fbY) w (by decide +kernel) fb5
theorem bkdecZ (w : World) : Calls Tryz.prog 52 #[.string ⟨#[67]⟩] w fun e w' => ∃ q : Blq, e = .returned (.tuple #[.agg (Blq.c q).toArray, .int .i64 4]) ∧ Hp w [] (q.rows 53 97 56 135) w' := bkdecE (S := fbZ) w (by decide +kernel) fb6
theorem txs_rows {q : Blq} {w0 w : World} {S : List Nat} {H : List HA} (h : Hp w0 S H w) (hm : ∀ A ∈ q.rows 53 97 56 135, A ∈ H) : TxsAt w q.ad q.l :=
  TxsAt.of_own (n := q.l.length) (ti := 97) (to := 56) (tw := 135) h (hm _ (.head _)) rfl fun A hA => hm A (.tail _ hA)
structure Cutd (q : Blq) (w : World) (h : Int) : Prop where
  at_ : TxsAt w q.ad q.l
  low : ∀ x ∈ q.l, Low x.t
  fit : ∀ x ∈ q.l, x.t.Fit
  len : q.l.length ≤ 1000000
  high : fits .i64 q.height
theorem Cutd.of {q : Blq} {b : Blk} {w0 w : World} {S : List Nat} {H : List HA} (h : q.b = ctBk b) (hf : b.Fit) (hp : Hp w0 S H w) (hm : ∀ A ∈ q.rows 53 97 56 135, A ∈ H) : Cutd q w b.height := by
  have hl := low_cut h hf.txs
  exact ⟨txs_rows hp hm, hl.1, hl.2.1, by have := hl.2.2; omega, by rw [show q.height = b.height from congrArg Blk.height h]; exact hf.height⟩
theorem Cutd.keep {q : Blq} {w w1 : World} {H : List HA} {n : Int} (h : Cutd q w n) (hw : Hp w [] H w1) : Cutd q w1 n := ⟨h.at_.keep hw, h.low, h.fit, h.len, h.high⟩
attribute [irreducible] fbE fbX fbY fbZ fbF

theorem fixed10_any (w : World) :
  Calls Tryz.prog 18 #[] w fun e w' => e = .returned (.bool true) ∧ Ch [] w w' := by
 refine calls_of (n := 106) (E := []) (W := Hp w [] []) Tryz.func18 rfl rfl (Nat.le_of_ble_eq_true rfl) rfl (Hp.nil _ _) ?_
 refine jsr ?_
 refine jz ?_
 refine jnt ?_
 refine jsr ?_
 refine jz ?_
 refine jl_as (u := .string fbH) rfl ?_
 refine jnt ?_
 refine jsr ?_
 refine jz ?_
 refine jy (y_build (Built.cell rfl rfl rfl (by repeat constructor) (Built.cell rfl rfl rfl (by repeat constructor) Built.nil))) ?_
 refine jl_m rfl (by decide) rfl (m_alloc) (fun b2 => ?_)
 refine jst ?_
 refine jnt ?_
 refine jc_seq ?_
 refine jc_world (fun _ h => h.cast (H' := [.cells b2 (Blq.c fbB)]) rfl) ?_
 refine jc_region ?_
 refine jy (y_loadAgg rfl mem0 (by repeat constructor)) ?_
 refine jpc (goes_func rfl) (fun w1 hw1 => cqb (bkenc_any fbB w1 (by decide) (txs_none w1) no_tx no_tx ⟨by decide, by decide⟩) (congrArg Value.string fbE_eq)) ?_
 refine jz ?_
 refine jnt ?_
 refine jsr ?_
 refine jz ?_
 refine jl_gcallL rfl (by decide) rfl (goes_func rfl) (fun w1 hw1 => bkdec1 w1) (fun d1 => ?_)
 refine jz ?_
 refine jz ?_
 refine jz ?_
 refine jl_m rfl (by decide) rfl (m_alloc) (fun b4 => ?_)
 refine jst ?_
 refine jz ?_
 refine jnt ?_
 refine jc_seq ?_
 refine jc_rebase (fun wx hbx => ?_)
 have hB : Old wx b2 0 (Blq.c fbB) := Old.of_cells (hbx.get mem1)
 have hC : Old wx b4 0 (Blq.c d1.1) := Old.of_cells (hbx.get mem0)
 have hD : TxsAt wx d1.1.ad d1.1.l := txs_rows hbx (fun A hA => .tail _ (.tail _ hA))
 have hd8 := low_dec (d1.2.trans fb3d.symm)
 refine jc_region ?_
 refine jz ?_
 refine jy (y_concat rfl rfl (by first | omega | decide +kernel | (simp only [ByteArray.size_append]; have := fbE_size; have := z16; have h120 : (⟨#[120]⟩ : ByteArray).size = 1 := rfl; omega))) ?_
 refine jl_as (u := .string fbX) (congrArg Value.string fbX_eq) ?_
 refine jl_gcallL rfl (by decide) rfl (goes_func rfl) (fun w1 hw1 => bkdecE w1 (by have := fbX_size; omega) fb4) (fun d2 => ?_)
 refine jz ?_
 refine jz ?_
 refine jz ?_
 refine jl_m rfl (by decide) rfl (m_alloc) (fun b6 => ?_)
 refine jst ?_
 refine jz ?_
 refine jnt ?_
 refine jc_seq ?_
 refine jc_world (fun _ h => h.part (F := []) .nil) ?_
 refine jc_region ?_
 refine jl_gcallL rfl (by decide) rfl (goes_func rfl) (fun w1 hw1 => bkdecY w1) (fun d3 => ?_)
 refine jz ?_
 refine jz ?_
 refine jz ?_
 refine jl_m rfl (by decide) rfl (m_alloc) (fun b8 => ?_)
 refine jst ?_
 refine jz ?_
 refine jnt ?_
 refine jc_seq ?_
 refine jc_world (fun _ h => h.part (F := []) .nil) ?_
 refine jc_region ?_
 refine jl_gcallL rfl (by decide) rfl (goes_func rfl) (fun w1 hw1 => bkdecZ w1) (fun d4 => ?_)
 refine jz ?_
 refine jz ?_
 refine jz ?_
 refine jl_m rfl (by decide) rfl (m_alloc) (fun b10 => ?_)
 refine jst ?_
 refine jz ?_
 refine jnt ?_
 refine jc_seq ?_
 refine jc_world (fun _ h => h.part (F := []) .nil) ?_
 refine jc_region ?_
 refine jz ?_
 refine jy (y_build (Built.cell rfl rfl rfl (by repeat constructor) (Built.cell rfl rfl rfl (by repeat constructor) (Built.cell rfl rfl rfl (by repeat constructor) Built.nil)))) ?_
 refine jl_m rfl (by decide) rfl (m_buildSlice (size := 9) (by decide) (Built.agg rfl rfl rfl (by repeat constructor) Built.nil)) (fun b39 => ?_)
 refine jz ?_
 refine jnt ?_
 refine jc_seq ?_
 refine jc_world (fun _ h => h.cast (H' := [.row (some ⟨b39, 0, none⟩) 1 1 56 9 ([fbO].flatMap Oup.c)]) rfl) ?_
 refine jc_region ?_
 refine jz ?_
 refine jpc (goes_func rfl) (fun w1 hw1 => bbegin_any (some ⟨b39, 0, none⟩) [fbO] 1 w1 (by decide) (ElAt.of_row (l := [fbO]) (c := Oup.c) (fun _ => rfl) rfl (hw1.get mem0)) fbO_fit fbO_key 3) ?_
 refine jl_m rfl (by decide) rfl (m_alloc) (fun b13 => ?_)
 refine jst ?_
 refine jnt ?_
 refine jc_seq ?_
 refine jc_rebase (fun wy hby => ?_)
 have hO : ElAt wy (some ⟨b39, 0, none⟩) 9 ([fbO].map Oup.c) := ElAt.of_row (fun _ => rfl) rfl (hby.get mem1)
 have hP : Old wy b13 0 (Pnt.c ⟨bkFirst [fbO], 3⟩) := Old.of_cells (hby.get mem0)
 replace hB := hB.keep hby
 replace hC := hC.keep hby
 replace hD := hD.keep hby
 refine jc_drop [0] ?_
 refine jc_free (by kernel_rfl) Hp.stay ?_
 refine jn_y [] rfl rfl (fun w1 hw1 => And.intro rfl (y_move rfl)) ?_
 refine jn_y [] rfl rfl (fun w1 hw1 => And.intro rfl (y_move rfl)) ?_
 refine jn_y [1] rfl rfl (fun w1 hw1 => And.intro rfl (y_concat rfl rfl (by first | omega | decide +kernel | (simp only [ByteArray.size_append]; have := fbE_size; have := z16; have h120 : (⟨#[120]⟩ : ByteArray).size = 1 := rfl; omega)))) ?_
 refine jn_y [2] rfl rfl (fun w1 hw1 => And.intro rfl (y_concat rfl rfl (by first | omega | decide +kernel | (simp only [ByteArray.size_append]; have := fbE_size; have := z16; have h120 : (⟨#[120]⟩ : ByteArray).size = 1 := rfl; omega)))) ?_
 refine jn_as (u := .string fbE) (congrArg Value.string fb2) ?_
 refine jn_y [0, 3] rfl rfl (fun w1 hw1 => And.intro rfl (y_seql rfl rfl)) ?_
 refine jn_as (u := .bool true) (congrArg (fun b => Value.bool b) (decide_eq_true (rfl))) ?_
 refine jn_y [4] rfl rfl (fun w1 hw1 => And.intro rfl (y_move rfl)) ?_
 refine jn_y [5] rfl rfl (fun w1 hw1 => And.intro rfl (y_loadAgg_old rfl rfl (hB.keep hw1) (by simp))) ?_
 refine jn_y [5] rfl rfl (fun w1 hw1 => And.intro rfl (y_loadAgg_old rfl rfl (hC.keep hw1) (by simp))) ?_
 refine jn_call [5, 6, 7] rfl rfl (fun w1 hw1 => And.intro rfl ⟨_, _, goes_func rfl, cqb (bksame_any fbB d1.1 w1 (by decide) (by have := hd8.2.2.1; omega) (txs_none w1) (hD.keep hw1) no_tx hd8.1) (congrArg Value.bool (decide_eq_true d1.2.symm))⟩) ?_
 refine jn_y [5, 8] rfl rfl (fun w1 hw1 => And.intro rfl (y_pick_true rfl rfl)) ?_
 refine jn_y [9] rfl rfl (fun w1 hw1 => And.intro rfl (y_move rfl)) ?_
 refine jn_y [10] rfl rfl (fun w1 hw1 => And.intro rfl (y_move rfl)) ?_
 refine jn_y [10, 11] rfl rfl (fun w1 hw1 => And.intro rfl (y_eql rfl rfl)) ?_
 refine jn_as (u := .bool true) (congrArg Value.bool (decide_eq_true rfl)) ?_
 refine jn_y [10, 12] rfl rfl (fun w1 hw1 => And.intro rfl (y_pick_true rfl rfl)) ?_
 refine jn_y [13] rfl rfl (fun w1 hw1 => And.intro rfl (y_move rfl)) ?_
 refine jn_y [14] rfl rfl (fun w1 hw1 => And.intro rfl (y_move rfl)) ?_
 refine jn_y [14, 15] rfl rfl (fun w1 hw1 => And.intro rfl (y_eql rfl rfl)) ?_
 refine jn_as (u := .bool true) (congrArg Value.bool (decide_eq_true rfl)) ?_
 refine jn_y [14, 16] rfl rfl (fun w1 hw1 => And.intro rfl (y_pick_true rfl rfl)) ?_
 refine jn_y [17] rfl rfl (fun w1 hw1 => And.intro rfl (y_move rfl)) ?_
 refine jn_y [18] rfl rfl (fun w1 hw1 => And.intro rfl (y_move rfl)) ?_
 refine jn_y [18, 19] rfl rfl (fun w1 hw1 => And.intro rfl (y_eql rfl rfl)) ?_
 refine jn_as (u := .bool true) (congrArg Value.bool (decide_eq_true rfl)) ?_
 refine jn_y [18, 20] rfl rfl (fun w1 hw1 => And.intro rfl (y_pick_true rfl rfl)) ?_
 refine jn_y [21] rfl rfl (fun w1 hw1 => And.intro rfl (y_move rfl)) ?_
 refine jn_y [22] rfl rfl (fun w1 hw1 => And.intro rfl (y_move rfl)) ?_
 refine jn_y [22, 23] rfl rfl (fun w1 hw1 => And.intro rfl (y_eql rfl rfl)) ?_
 refine jn_as (u := .bool true) (congrArg Value.bool (decide_eq_true rfl)) ?_
 refine jn_y [22, 24] rfl rfl (fun w1 hw1 => And.intro rfl (y_pick_true rfl rfl)) ?_
 refine jn_y [25] rfl rfl (fun w1 hw1 => And.intro rfl (y_move rfl)) ?_
 refine jn_y [26] rfl rfl (fun w1 hw1 => And.intro rfl (y_loadAgg_old rfl rfl (hB.keep hw1) (by simp))) ?_
 refine jn_call [26, 27] rfl rfl (fun w1 hw1 => And.intro rfl ⟨_, _, goes_func rfl, cqb (bkid_any fbB w1 (by decide) (txs_none w1) no_tx no_tx ⟨by decide, by decide⟩) (congrArg Value.string fbID)⟩) ?_
 refine jn_y [26] rfl rfl (fun w1 hw1 => And.intro rfl (y_move rfl)) ?_
 refine jn_m [26, 29] rfl rfl (fun w1 hw1 => And.intro rfl (m_buildSlice (by decide) (Built.cell rfl rfl rfl (by repeat constructor) (Built.cell rfl rfl rfl (by repeat constructor) (Built.cell rfl rfl rfl (by repeat constructor) Built.nil))))) ?_
 refine jn_call [26, 30] rfl rfl (fun w1 hw1 b72 h72 => And.intro rfl ⟨_, _, goes_func rfl, tag_any strBlock (some ⟨b72, 0, none⟩) 3 [fbN, fbH, ⟨#[]⟩] w1 (by decide) (by simp) (all3 (by decide) (by decide) (by decide)) (Strs.of_row (h72 _ mem0))⟩) ?_
 refine jn_y [26, 28, 31] rfl rfl (fun w1 hw1 => And.intro rfl (y_seql rfl rfl)) ?_
 refine jn_as (u := .bool true) (congrArg (fun b => Value.bool b) (decide_eq_true (rfl))) ?_
 refine jn_y [26, 32] rfl rfl (fun w1 hw1 => And.intro rfl (y_pick_true rfl rfl)) ?_
 refine jn_y [33] rfl rfl (fun w1 hw1 => And.intro rfl (y_move rfl)) ?_
 refine jn_y [34] rfl rfl (fun w1 hw1 => And.intro rfl (y_loadAgg_old rfl rfl (hB.keep hw1) (by simp))) ?_
 refine jn_call [34, 35] rfl rfl (fun w1 hw1 => And.intro rfl ⟨_, _, goes_func rfl, cqb (bkright_any fbB w1 (by decide) (txs_none w1) no_tx) (congrArg Value.bool fbR)⟩) ?_
 refine jn_y [34, 36] rfl rfl (fun w1 hw1 => And.intro rfl (y_pick_true rfl rfl)) ?_
 refine jn_y [37] rfl rfl (fun w1 hw1 => And.intro rfl (y_move rfl)) ?_
 refine jn_y [38] rfl rfl (fun w1 hw1 => And.intro rfl (y_build Built.nil)) ?_
 refine jn_call [38, 39] rfl rfl (fun w1 hw1 => And.intro rfl ⟨_, _, goes_func rfl, cqb (bkright_any bq0 w1 (by decide) (txs_none w1) no_tx) (congrArg Value.bool fbR0)⟩) ?_
 refine jn_y [38, 40] rfl rfl (fun w1 hw1 => And.intro rfl (y_not rfl)) ?_
 refine jn_y [38, 41] rfl rfl (fun w1 hw1 => And.intro rfl (y_pick_true rfl rfl)) ?_
 refine jn_y [42] rfl rfl (fun w1 hw1 => And.intro rfl (y_move rfl)) ?_
 refine jn_y [43] rfl rfl (fun w1 hw1 => And.intro rfl (y_build Built.nil)) ?_
 refine jn_call [43, 44] rfl rfl (fun w1 hw1 => And.intro rfl ⟨_, _, goes_func rfl, cqb (bkid_any bq0 w1 (by decide) (txs_none w1) no_tx no_tx ⟨by decide, by decide⟩) (congrArg Value.string fbID0)⟩) ?_
 refine jn_y [43, 45] rfl rfl (fun w1 hw1 => And.intro rfl (y_seql rfl rfl)) ?_
 refine jn_as (u := .bool true) (congrArg (fun b => Value.bool b) (decide_eq_true (rfl))) ?_
 refine jn_y [43, 46] rfl rfl (fun w1 hw1 => And.intro rfl (y_pick_true rfl rfl)) ?_
 refine jn_y [47] rfl rfl (fun w1 hw1 => And.intro rfl (y_move rfl)) ?_
 refine jn_y [48] rfl rfl (fun w1 hw1 => And.intro rfl (y_move rfl)) ?_
 refine jn_call [48, 49] rfl rfl (fun w1 hw1 => And.intro rfl ⟨_, _, goes_func rfl, cqb (bfirst_any (some ⟨b39, 0, none⟩) [fbO] 1 w1 (by decide) (hO.keep hw1) fbO_fit fbO_key) (congrArg Value.string fbFst)⟩) ?_
 refine jn_y [48] rfl rfl (fun w1 hw1 => And.intro rfl (y_move rfl)) ?_
 refine jn_y [48, 51] rfl rfl (fun w1 hw1 => And.intro rfl (y_concat rfl rfl (by first | omega | decide +kernel | (simp only [ByteArray.size_append]; have := fbE_size; have := z16; have h120 : (⟨#[120]⟩ : ByteArray).size = 1 := rfl; omega)))) ?_
 refine jn_as (u := .string fbF) (congrArg Value.string fbF_eq) ?_
 refine jn_m [48, 52] rfl rfl (fun w1 hw1 => And.intro rfl (m_buildSlice (by decide) (Built.cell rfl rfl rfl (by repeat constructor) Built.nil))) ?_
 refine jn_call [48, 53] rfl rfl (fun w1 hw1 b95 h95 => And.intro rfl ⟨_, _, goes_func rfl, tag_any strFirst (some ⟨b95, 0, none⟩) 1 [fbF] w1 (by decide) (by simp) (all1 (by decide +kernel)) (Strs.of_row (h95 _ mem0))⟩) ?_
 refine jn_y [48, 50, 54] rfl rfl (fun w1 hw1 => And.intro rfl (y_seql rfl rfl)) ?_
 refine jn_as (u := .bool true) (congrArg (fun b => Value.bool b) (decide_eq_true (rfl))) ?_
 refine jn_y [48, 55] rfl rfl (fun w1 hw1 => And.intro rfl (y_pick_true rfl rfl)) ?_
 refine jn_y [56] rfl rfl (fun w1 hw1 => And.intro rfl (y_move rfl)) ?_
 refine jn_y [57] rfl rfl (fun w1 hw1 => And.intro rfl (y_loadAgg_old rfl rfl (hP.keep hw1) (by simp))) ?_
 refine jn_y [57] rfl rfl (fun w1 hw1 => And.intro rfl (y_move rfl)) ?_
 refine jn_call [57, 59] rfl rfl (fun w1 hw1 => And.intro rfl ⟨_, _, goes_func rfl, bfirst_any (some ⟨b39, 0, none⟩) [fbO] 1 w1 (by decide) (hO.keep hw1) fbO_fit fbO_key⟩) ?_
 refine jn_y [57, 60] rfl rfl (fun w1 hw1 => And.intro rfl (y_build (Built.cell rfl rfl rfl (by repeat constructor) (Built.cell rfl rfl rfl (by repeat constructor) Built.nil)))) ?_
 refine jn_y [57, 58, 61] rfl rfl (fun w1 hw1 => And.intro rfl (y_eql_agg rfl rfl (by kernel_rfl) (fun w => eq_pnt 9998 ⟨bkFirst [fbO], 3⟩ ⟨bkFirst [fbO], 3⟩ w))) ?_
 refine jn_as (u := .bool true) (congrArg Value.bool (decide_eq_true rfl)) ?_
 refine jn_y [57, 62] rfl rfl (fun w1 hw1 => And.intro rfl (y_pick_true rfl rfl)) ?_
 refine jn_y [63] rfl rfl (fun w1 hw1 => And.intro rfl (y_assign rfl)) ?_
 refine jn_nil [64] (by decide) (fun w1 hw1 => jq_at hw1 ?_)
 refine jq_then ?_
 refine jc_ret ?_
 refine jq_ret1 rfl rfl ?_
 exact fun _ hw => ⟨rfl, (hbx.ch.then (hby.ch.then hw.ch))⟩

end Go.Proofs.YtomhcibbalhgkaaGreat

namespace Go.Proofs.YtomhcibbalhgkaaGreat
open Go.RowKit
set_option maxRecDepth 100000
set_option maxHeartbeats 4000000
set_option linter.unusedVariables false
set_option linter.unusedSimpArgs false
attribute [local irreducible] Yields Makes Writes
theorem core_ne {t : Trx} (h : txRight t = true) : ¬ txCore t = ⟨#[]⟩ := by
  obtain ⟨h1, _, h3, h4, h5, _⟩ := txRight_iff.1 h
  unfold txCore txPut txIns
  rw [if_pos h, wByte_add (n := 67) (by omega), wByte_add (n := (t.ins.length : Int)) (by omega), wFold_add (f := putIn) (g := inBy) (fun w x hx => putIn_add (h1 x hx)), wByte_add (n := (t.outs.length : Int)) (by omega), wFold_add (f := putOu) (g := ouBy) (fun w x hx => putOu_add (h5 x hx))]
  simp only [wAdd_app]
  rw [wText_add rfl]
  intro e
  have := congrArg ByteArray.size e
  simp only [ByteArray.size_append, oneB_size] at this
  have h0 : (⟨#[]⟩ : ByteArray).size = 0 := rfl
  omega

theorem renc_any (p : Pf) (ad : Option Addr) (c : Nat) (w : World) (hE : ElAt w ad 10 (p.wins.map Wn.c)) (hf : p.Fit) (hl : p.wins.length ≤ 1000000000) :
  Calls Tryz.prog 72 #[.agg (Pf.c p ad c).toArray] w fun e w' => e = .returned (.string (pfEnc p)) ∧ Ch [] w w' := by
 refine calls_of (n := 91) (E := [(0, .agg (Pf.c p ad c).toArray)]) (W := Hp w [] []) Tryz.func72 rfl rfl (Nat.le_of_ble_eq_true rfl) rfl (Hp.nil _ _) ?_
 refine jsr ?_
 refine jl_m rfl (by decide) rfl (m_box rfl rfl) (fun b1 => ?_)
 refine jz ?_
 refine jnt ?_
 refine jc_seq ?_
 refine jsr ?_
 refine jz ?_
 refine jpc (goes_func rfl) (fun w1 hw1 => rright_any p ad c w1 (hE.keep hw1) hl) ?_
 refine jl_bool (fun h7 => ?_) (fun h7 => ?_)
 ·skip
  have hrb : pfRight p = true := by assumption
  have hr := pfRight_iff.1 hrb
  have hr2 := hr.2.1
  have hr3 := hr.2.2.1
  have hr4 := hr.2.2.2
  refine jz ?_
  refine jnt ?_
  refine jc_false rfl ?_
  refine jc_skip ?_
  refine jq_then ?_
  refine jsr ?_
  refine jy (y_build Built.nil) ?_
  refine jl_m rfl (by decide) rfl (m_box rfl rfl) (fun b10 => ?_)
  refine jz ?_
  refine jnt ?_
  refine jsr ?_
  refine jz ?_
  refine jz ?_
  refine jz ?_
  refine juc (goes_func rfl) (fun w1 hw1 => rwnum_any b10 (w0) (p.amount) hf.amount w1 (wz) hw1) ?_
  refine jnt ?_
  refine jsr ?_
  refine jz ?_
  refine jz ?_
  refine jz ?_
  refine juc (goes_func rfl) (fun w1 hw1 => rwblob_any b10 (wNum (w0) (p.amount)) (p.sig) (by omega) w1 (wz) hw1) ?_
  refine jnt ?_
  refine jsr ?_
  refine jz ?_
  refine jz ?_
  refine jz ?_
  refine juc (goes_func rfl) (fun w1 hw1 => rwblob_any b10 (wBlob (wNum (w0) (p.amount)) (p.sig)) (p.token) (by omega) w1 (wz) hw1) ?_
  refine jnt ?_
  refine jsr ?_
  refine jz ?_
  refine jz ?_
  refine jz ?_
  refine jy (y_len_slice rfl) ?_
  refine juc (goes_func rfl) (fun w1 hw1 => rwbyte_any b10 (wBlob (wBlob (wNum (w0) (p.amount)) (p.sig)) (p.token)) (((p.wins.length : Nat) : Int)) (by simp only [fits]; omega) w1 (wz) hw1) ?_
  refine jnt ?_
  refine jc_seq ?_
  refine jsr ?_
  refine jz ?_
  refine jnt ?_
  refine jc_block ?_
  refine jc_loop (fun (i : Nat) => [(1, .pointer (some ⟨b1, 0, none⟩)), (3, .pointer (some ⟨b10, 0, none⟩)), (4, .int .i64 (i : Nat))]) (fun (i : Nat) => fun w' => i ≤ p.wins.length ∧ Hp w [] [.cells b10 [.string ((wWins (pfHead p) (p.wins.take i))).1, .int .i64 ((wWins (pfHead p) (p.wins.take i))).2], .cells b1 (Pf.c p ad c)] w') (fun (i : Nat) => p.wins.length - i) 0 ?_ ?_ ?_
  ·exact ⟨rfl, rfl, rfl, trivial⟩
  ·exact fun _ h => ⟨by omega, h⟩
  ·intro i
   refine jc_and (fun hi => ?_)
   refine jc_seq ?_
   refine jsr ?_
   refine jz ?_
   refine jz ?_
   refine jz ?_
   refine jy (y_len_slice rfl) ?_
   refine jy (y_lss rfl rfl) ?_
   refine jl_prop (fun h32 => ?_) (fun h32 => ?_)
   ·first
    | (exfalso; omega)
    | (
     have hlt : i < p.wins.length := by omega
     have hfx := hf.wins _ (List.getElem_mem hlt)
     have hrx := wnMay_iff.1 (hr.1 _ (List.getElem_mem hlt))
     obtain ⟨bb, oo, ea, hold⟩ := hE.get hlt
     subst ea
     generalize hxe : p.wins[i]'hlt = x at *
     have hzs := wle_wins (l := p.wins.take i) (x := pfHead p) (a := 0) (K := 100000) (by have := pfHead_size p; rw [List.length_take]; omega)
     generalize hz : wWins (pfHead p) (p.wins.take i) = z at *
     refine jnt ?_
     refine jc_true rfl ?_
     refine jc_skip ?_
     refine jq_then ?_
     refine jc_seq ?_
     refine jc_block ?_
     refine jsr ?_
     refine jz ?_
     refine jz ?_
     refine jz ?_
     refine jy (y_indexAddr_slice (off := oo + i * 10) rfl rfl (by omega) (by omega) (by omega)) ?_
     refine jz ?_
     refine jy (y_loadAgg_old rfl rfl (hold.take 8) (by simp)) ?_
     refine jl_m rfl (by decide) rfl (m_alloc) (fun b5 => ?_)
     refine jst ?_
     refine jnt ?_
     refine jsr ?_
     refine jz ?_
     refine jz ?_
     refine jz ?_
     refine juc (goes_func rfl) (fun w1 hw1 => rwhash_any b10 (z) (x.t.chan) (by omega) w1 (wz) hw1) ?_
     refine jnt ?_
     refine jsr ?_
     refine jz ?_
     refine jz ?_
     refine jz ?_
     refine juc (goes_func rfl) (fun w1 hw1 => rwnum_any b10 (wHash (z) (x.t.chan)) (x.t.serial) hfx.t.serial w1 (wz) hw1) ?_
     refine jnt ?_
     refine jsr ?_
     refine jz ?_
     refine jz ?_
     refine jz ?_
     refine juc (goes_func rfl) (fun w1 hw1 => rwnum_any b10 (wNum (wHash (z) (x.t.chan)) (x.t.serial)) (x.t.face) hfx.t.face w1 (wz) hw1) ?_
     refine jnt ?_
     refine jsr ?_
     refine jz ?_
     refine jz ?_
     refine jz ?_
     refine juc (goes_func rfl) (fun w1 hw1 => rwnum_any b10 (wNum (wNum (wHash (z) (x.t.chan)) (x.t.serial)) (x.t.face)) (x.t.wins) hfx.t.wins w1 (wz) hw1) ?_
     refine jnt ?_
     refine jsr ?_
     refine jz ?_
     refine jz ?_
     refine jz ?_
     refine juc (goes_func rfl) (fun w1 hw1 => rwnum_any b10 (wNum (wNum (wNum (wHash (z) (x.t.chan)) (x.t.serial)) (x.t.face)) (x.t.wins)) (x.t.many) hfx.t.many w1 (wz) hw1) ?_
     refine jnt ?_
     refine jsr ?_
     refine jz ?_
     refine jz ?_
     refine jz ?_
     refine juc (goes_func rfl) (fun w1 hw1 => rwhash_any b10 (wNum (wNum (wNum (wNum (wHash (z) (x.t.chan)) (x.t.serial)) (x.t.face)) (x.t.wins)) (x.t.many)) (x.t.commit) (by omega) w1 (wz) hw1) ?_
     refine jnt ?_
     refine jsr ?_
     refine jz ?_
     refine jz ?_
     refine jz ?_
     refine juc (goes_func rfl) (fun w1 hw1 => rwnum_any b10 (wHash (wNum (wNum (wNum (wNum (wHash (z) (x.t.chan)) (x.t.serial)) (x.t.face)) (x.t.wins)) (x.t.many)) (x.t.commit)) (x.t.client) hfx.t.client w1 (wz) hw1) ?_
     refine jnt ?_
     refine jsr ?_
     refine jz ?_
     refine jz ?_
     refine jz ?_
     refine juc (goes_func rfl) (fun w1 hw1 => rwblob_any b10 (wNum (wHash (wNum (wNum (wNum (wNum (wHash (z) (x.t.chan)) (x.t.serial)) (x.t.face)) (x.t.wins)) (x.t.many)) (x.t.commit)) (x.t.client)) (x.t.sig) (by omega) w1 (wz) hw1) ?_
     refine jnt ?_
     refine jsr ?_
     refine jz ?_
     refine jz ?_
     refine jz ?_
     refine jz ?_
     refine jy (y_indexAddr_slice (off := oo + i * 10) rfl rfl (by omega) (by omega) (by omega)) ?_
     refine jz ?_
     refine jy (y_load_old rfl (hold 8 _ rfl) (by simp)) ?_
     refine juc (goes_func rfl) (fun w1 hw1 => rwblob_any b10 (wBlob (wNum (wHash (wNum (wNum (wNum (wNum (wHash (z) (x.t.chan)) (x.t.serial)) (x.t.face)) (x.t.wins)) (x.t.many)) (x.t.commit)) (x.t.client)) (x.t.sig)) (x.salt) (by omega) w1 (wz) hw1) ?_
     refine jnt ?_
     refine jc_region ?_
     refine jz ?_
     refine jz ?_
     refine jz ?_
     refine jz ?_
     refine jy (y_indexAddr_slice (off := oo + i * 10) rfl rfl (by omega) (by omega) (by omega)) ?_
     refine jz ?_
     refine jy (y_load_old rfl (hold 9 _ rfl) (by simp)) ?_
     refine juc (goes_func rfl) (fun w1 hw1 => rwnum_any b10 (wBlob (wBlob (wNum (wHash (wNum (wNum (wNum (wNum (wHash (z) (x.t.chan)) (x.t.serial)) (x.t.face)) (x.t.wins)) (x.t.many)) (x.t.commit)) (x.t.client)) (x.t.sig)) (x.salt)) (x.drawn) hfx.drawn w1 (wz) hw1) ?_
     refine jl_nil ?_
     refine jq_block ?_
     refine jq_then ?_
     refine jc_region ?_
     refine jz ?_
     refine jy (y_add_fits rfl rfl (by simp only [fits]; omega)) ?_
     refine jz ?_
     refine jl_nil ?_
     refine jq_round (i := i) (i + 1) ?_ ?_ ?_
     ·omega
     ·exact ⟨rfl, rfl, lk_int rfl (by omega), trivial⟩
     ·exact fun _ h => ⟨by omega, h.pop.cast (by rw [wWins_take hlt, hxe, hz]; rfl)⟩
     )
   ·first
    | (exfalso; omega)
    | (
     refine jnt ?_
     refine jc_false rfl ?_
     refine jc_exit ?_
     refine jq_then_exit ?_
     refine jq_then_exit ?_
     refine jq_hit ?_
     refine jq_then ?_
     refine jsr ?_
     refine jz ?_
     refine jpc (goes_func rfl) (fun w1 hw1 => rwtext_any b10 (wWins (pfHead p) (p.wins.take i)) w1 (CellAt.of_cells (hw1.get (A := .cells b10 [.string (wWins (pfHead p) (p.wins.take i)).1, .int .i64 (wWins (pfHead p) (p.wins.take i)).2]) mem0) rfl) (CellAt.of_cells (hw1.get (A := .cells b10 [.string (wWins (pfHead p) (p.wins.take i)).1, .int .i64 (wWins (pfHead p) (p.wins.take i)).2]) mem0) rfl)) ?_
     refine jz ?_
     refine jnt ?_
     refine jc_ret ?_
     refine jq_ret1 rfl rfl ?_
     exact fun _ hw => ⟨by unfold pfEnc pfPut; rw [if_pos hrb, List.take_of_length_le (by omega)], hw.ch⟩
     )
 ·skip
  refine jz ?_
  refine jnt ?_
  refine jc_true rfl ?_
  refine jsr ?_
  refine jz ?_
  refine jnt ?_
  refine jc_ret ?_
  refine jq_then_ret ?_
  refine jq_ret1 rfl rfl ?_
  exact fun _ hw => ⟨by unfold pfEnc; rw [if_neg (by simp_all)], hw.ch⟩

theorem rtxcore_any (t : Trx) (a1 : Option Addr) (c1 : Nat) (a2 : Option Addr) (c2 : Nat) (a3 : Option Addr) (c3 : Nat) (w : World) (hf : t.Fit) (h1 : ElAt w a1 4 (t.ins.map Inp.c)) (h2 : ElAt w a2 9 (t.outs.map Oup.c)) (h3 : ElAt w a3 10 (t.pf.wins.map Wn.c)) (l1 : t.ins.length ≤ 1000000000) (l2 : t.outs.length ≤ 1000000000) (l3 : t.pf.wins.length ≤ 1000000000) :
  Calls Tryz.prog 67 #[.agg (Trx.c t a1 c1 a2 c2 a3 c3).toArray] w fun e w' => e = .returned (.string (txCore t)) ∧ Ch [] w w' := by
 refine calls_of (n := 118) (E := [(0, .agg (Trx.c t a1 c1 a2 c2 a3 c3).toArray)]) (W := Hp w [] []) Tryz.func67 rfl rfl (Nat.le_of_ble_eq_true rfl) rfl (Hp.nil _ _) ?_
 refine jsr ?_
 refine jl_m rfl (by decide) rfl (m_box rfl rfl) (fun b1 => ?_)
 refine jz ?_
 refine jnt ?_
 refine jc_seq ?_
 refine jsr ?_
 refine jz ?_
 refine jpc (goes_func rfl) (fun w1 hw1 => rtxright_any t a1 c1 a2 c2 a3 c3 w1 hf (h1.keep hw1) (h2.keep hw1) (h3.keep hw1) l1 l2 l3) ?_
 refine jl_bool (fun h8 => ?_) (fun h8 => ?_)
 ·skip
  have hrb : txRight t = true := by assumption
  obtain ⟨r1, r2, r3, r4, r5, r6⟩ := txRight_iff.1 hrb
  refine jz ?_
  refine jnt ?_
  refine jc_false rfl ?_
  refine jc_skip ?_
  refine jq_then ?_
  refine jsr ?_
  refine jy (y_build Built.nil) ?_
  refine jl_m rfl (by decide) rfl (m_box rfl rfl) (fun b11 => ?_)
  refine jz ?_
  refine jnt ?_
  refine jsr ?_
  refine jz ?_
  refine juc (goes_func rfl) (fun w1 hw1 => rwbyte_any b11 (w0) (67) (by simp only [fits]; decide) w1 (wz) hw1) ?_
  refine jnt ?_
  refine jsr ?_
  refine jz ?_
  refine jz ?_
  refine jz ?_
  refine jy (y_len_slice rfl) ?_
  refine juc (goes_func rfl) (fun w1 hw1 => rwbyte_any b11 (wByte (w0) (67)) (((t.ins.length : Nat) : Int)) (by simp only [fits]; omega) w1 (wz) hw1) ?_
  refine jnt ?_
  refine jc_seq ?_
  refine jsr ?_
  refine jz ?_
  refine jnt ?_
  refine jc_block ?_
  refine jc_loop (fun (i : Nat) => [(1, .pointer (some ⟨b1, 0, none⟩)), (3, .pointer (some ⟨b11, 0, none⟩)), (4, .int .i64 (i : Nat))]) (fun (i : Nat) => fun w' => i ≤ t.ins.length ∧ Hp w [] [.cells b11 [.string ((t.ins.take i).foldl putIn (wByte (wByte w0 67) t.ins.length)).1, .int .i64 ((t.ins.take i).foldl putIn (wByte (wByte w0 67) t.ins.length)).2], .cells b1 (Trx.c t a1 c1 a2 c2 a3 c3)] w') (fun (i : Nat) => t.ins.length - i) 0 ?_ ?_ ?_
  ·exact ⟨rfl, rfl, rfl, trivial⟩
  ·exact fun _ h => ⟨by omega, h⟩
  ·intro i
   refine jc_and (fun hi => ?_)
   refine jc_seq ?_
   refine jsr ?_
   refine jz ?_
   refine jz ?_
   refine jz ?_
   refine jy (y_len_slice rfl) ?_
   refine jy (y_lss rfl rfl) ?_
   refine jl_prop (fun h23 => ?_) (fun h23 => ?_)
   ·first
    | (exfalso; omega)
    | (
     have hlt : i < t.ins.length := by omega
     have hfx := hf.ins _ (List.getElem_mem hlt)
     have hrx := r1 _ (List.getElem_mem hlt)
     obtain ⟨bb, oo, ea, hold⟩ := h1.get hlt
     subst ea
     generalize hxe : t.ins[i]'hlt = x at *
     have hrx2 := inFits_iff.1 hrx
     have hzs := wle_fold (f := putIn) (n := 18) (fun w x a K h => wle_in h) (t.ins.take i) (w := wByte (wByte w0 67) t.ins.length) (a := 0) (K := 1000) (by rw [List.length_take]; apply wle_byte; apply wle_byte; have hw00 : w0.1.size = 0 := rfl; omega)
     generalize hz : (t.ins.take i).foldl putIn (wByte (wByte w0 67) t.ins.length) = z at *
     refine jnt ?_
     refine jc_true rfl ?_
     refine jc_skip ?_
     refine jq_then ?_
     refine jc_seq ?_
     refine jc_block ?_
     refine jsr ?_
     refine jz ?_
     refine jz ?_
     refine jz ?_
     refine jz ?_
     refine jy (y_indexAddr_slice (off := oo + i * 4) rfl rfl (by omega) (by omega) (by omega)) ?_
     refine jz ?_
     refine jz ?_
     refine jy (y_load_old rfl (hold 0 _ rfl) (by simp)) ?_
     refine juc (goes_func rfl) (fun w1 hw1 => rwhash_any b11 (z) (x.pt.tx) (by omega) w1 (wz) hw1) ?_
     refine jnt ?_
     refine jsr ?_
     refine jz ?_
     refine jz ?_
     refine jz ?_
     refine jz ?_
     refine jy (y_indexAddr_slice (off := oo + i * 4) rfl rfl (by omega) (by omega) (by omega)) ?_
     refine jz ?_
     refine jz ?_
     refine jy (y_load_old rfl (hold 1 _ rfl) (by simp)) ?_
     refine juc (goes_func rfl) (fun w1 hw1 => rwbyte_any b11 (wHash (z) (x.pt.tx)) (x.pt.out) hfx.out w1 (wz) hw1) ?_
     refine jnt ?_
     refine jc_region ?_
     refine jz ?_
     refine jz ?_
     refine jz ?_
     refine jz ?_
     refine jy (y_indexAddr_slice (off := oo + i * 4) rfl rfl (by omega) (by omega) (by omega)) ?_
     refine jz ?_
     refine jy (y_load_old rfl (hold 2 _ rfl) (by simp)) ?_
     refine juc (goes_func rfl) (fun w1 hw1 => rwbyte_any b11 (wByte (wHash (z) (x.pt.tx)) (x.pt.out)) (x.path) hfx.path w1 (wz) hw1) ?_
     refine jl_nil ?_
     refine jq_block ?_
     refine jq_then ?_
     refine jc_region ?_
     refine jz ?_
     refine jy (y_add_fits rfl rfl (by simp only [fits]; omega)) ?_
     refine jz ?_
     refine jl_nil ?_
     refine jq_round (i := i) (i + 1) ?_ ?_ ?_
     ·omega
     ·exact ⟨rfl, rfl, lk_int rfl (by omega), trivial⟩
     ·exact fun _ h => ⟨by omega, h.cast (by rw [fold_take putIn hlt, hxe, hz]; rfl)⟩
     )
   ·first
    | (exfalso; omega)
    | (
     refine jnt ?_
     refine jc_false rfl ?_
     refine jc_exit ?_
     refine jq_then_exit ?_
     refine jq_then_exit ?_
     refine jq_hit ?_
     refine jq_then ?_
     refine jc_seq ?_
     refine jc_world (fun _ h => h.cast (H' := [.cells b11 [.string (txIns t).1, .int .i64 (txIns t).2], .cells b1 (Trx.c t a1 c1 a2 c2 a3 c3)]) (by rw [List.take_of_length_le (by omega)]; rfl)) ?_
     refine jc_region ?_
     refine jz ?_
     refine jz ?_
     refine jz ?_
     refine jy (y_len_slice rfl) ?_
     refine juc (goes_func rfl) (fun w1 hw1 => rwbyte_any b11 (txIns t) (((t.outs.length : Nat) : Int)) (by simp only [fits]; omega) w1 (by have := txIns_size (t := t) (by omega); omega) hw1) ?_
     refine jnt ?_
     refine jc_seq ?_
     refine jsr ?_
     refine jz ?_
     refine jnt ?_
     refine jc_block ?_
     refine jc_loop (fun (j : Nat) => [(1, .pointer (some ⟨b1, 0, none⟩)), (3, .pointer (some ⟨b11, 0, none⟩)), (5, .int .i64 (j : Nat))]) (fun (j : Nat) => fun w' => j ≤ t.outs.length ∧ Hp w [] [.cells b11 [.string ((t.outs.take j).foldl putOu (wByte (txIns t) t.outs.length)).1, .int .i64 ((t.outs.take j).foldl putOu (wByte (txIns t) t.outs.length)).2], .cells b1 (Trx.c t a1 c1 a2 c2 a3 c3)] w') (fun (j : Nat) => t.outs.length - j) 0 ?_ ?_ ?_
     ·exact ⟨rfl, rfl, rfl, trivial⟩
     ·exact fun _ h => ⟨by omega, h⟩
     ·intro j
      refine jc_and (fun hj => ?_)
      refine jc_seq ?_
      refine jsr ?_
      refine jz ?_
      refine jz ?_
      refine jz ?_
      refine jy (y_len_slice rfl) ?_
      refine jy (y_lss rfl rfl) ?_
      refine jl_prop (fun h61 => ?_) (fun h61 => ?_)
      ·first
       | (exfalso; omega)
       | (
        have hlt : j < t.outs.length := by omega
        have hfx := hf.outs _ (List.getElem_mem hlt)
        have hrx := r5 _ (List.getElem_mem hlt)
        obtain ⟨bb, oo, ea, hold⟩ := h2.get hlt
        subst ea
        generalize hxe : t.outs[j]'hlt = x at *
        have hsm := ou_small hrx
        have hzs := txOuts_size (t := t) (by omega) (t.outs.take j) (by rw [List.length_take]; omega)
        generalize hz : (t.outs.take j).foldl putOu (wByte (txIns t) t.outs.length) = z at *
        refine jnt ?_
        refine jc_true rfl ?_
        refine jc_skip ?_
        refine jq_then ?_
        refine jc_seq ?_
        refine jc_block ?_
        refine jc_seq ?_
        obtain ⟨hq1, hq2, hq3, hq4⟩ := ouFits_iff.1 hrx
        unfold ouKind at hq3
        rcases hq3 with hk | ⟨hk, hg, ha⟩ | ⟨hk, hg, ha⟩
        ·skip
         refine jc_region ?_
         refine jz ?_
         refine jz ?_
         refine jz ?_
         refine jy (y_indexAddr_slice (off := oo + j * 9) rfl rfl (by omega) (by omega) (by omega)) ?_
         refine jy (y_loadAgg_old rfl rfl hold (by simp)) ?_
         refine jl_m rfl (by decide) rfl (m_alloc) (fun b6 => ?_)
         refine jst ?_
         refine jnt ?_
         refine jsr ?_
         refine jz ?_
         refine jz ?_
         refine jz ?_
         refine juc (goes_func rfl) (fun w1 hw1 => rwbyte_any b11 (z) (x.kind) hfx.kind w1 (wz) hw1) ?_
         refine jnt ?_
         refine jsr ?_
         refine jz ?_
         refine jz ?_
         refine jz ?_
         refine juc (goes_func rfl) (fun w1 hw1 => rwnum_any b11 (wByte (z) (x.kind)) (x.amount) hfx.amount w1 (wz) hw1) ?_
         refine jnt ?_
         refine jsr ?_
         refine jz ?_
         refine jz ?_
         refine jz ?_
         refine juc (goes_func rfl) (fun w1 hw1 => rwhash_any b11 (wNum (wByte (z) (x.kind)) (x.amount)) (x.key) (by omega) w1 (wz) hw1) ?_
         refine jnt ?_
         refine jc_seq ?_
         refine jsr ?_
         refine jz ?_
         refine jz ?_
         refine jy (y_neq rfl rfl) ?_
         refine jl_as (u := .bool false) (congrArg Value.bool (decide_eq_false (by omega))) ?_
         refine jnt ?_
         refine jc_false rfl ?_
         refine jc_skip ?_
         refine jq_then ?_
         refine jc_seq ?_
         refine jsr ?_
         refine jz ?_
         refine jz ?_
         refine jy (y_eql rfl rfl) ?_
         refine jl_as (u := .bool false) (congrArg Value.bool (decide_eq_false (by omega))) ?_
         refine jnt ?_
         refine jc_false rfl ?_
         refine jc_skip ?_
         refine jq_then ?_
         refine jsr ?_
         refine jz ?_
         refine jz ?_
         refine jy (y_eql rfl rfl) ?_
         refine jl_as (u := .bool false) (congrArg Value.bool (decide_eq_false (by omega))) ?_
         refine jnt ?_
         refine jc_false rfl ?_
         refine jc_skip ?_
         refine jq_block ?_
         refine jq_then ?_
         refine jc_region ?_
         refine jz ?_
         refine jy (y_add_fits rfl rfl (by simp only [fits]; omega)) ?_
         refine jz ?_
         refine jl_nil ?_
         refine jq_round (i := j) (j + 1) ?_ ?_ ?_
         ·omega
         ·exact ⟨rfl, rfl, lk_int rfl (by omega), trivial⟩
         ·exact fun _ h => ⟨by omega, h.pop.cast (by rw [fold_take putOu hlt, hxe, hz]; unfold putOu; first | rw [if_pos (show x.kind = 1 by omega)] | rw [if_neg (show ¬ x.kind = 1 by omega), if_pos (show x.kind = 3 by omega)] | rw [if_neg (show ¬ x.kind = 1 by omega), if_neg (show ¬ x.kind = 3 by omega)])⟩
        ·skip
         refine jc_region ?_
         refine jz ?_
         refine jz ?_
         refine jz ?_
         refine jy (y_indexAddr_slice (off := oo + j * 9) rfl rfl (by omega) (by omega) (by omega)) ?_
         refine jy (y_loadAgg_old rfl rfl hold (by simp)) ?_
         refine jl_m rfl (by decide) rfl (m_alloc) (fun b6 => ?_)
         refine jst ?_
         refine jnt ?_
         refine jsr ?_
         refine jz ?_
         refine jz ?_
         refine jz ?_
         refine juc (goes_func rfl) (fun w1 hw1 => rwbyte_any b11 (z) (x.kind) hfx.kind w1 (wz) hw1) ?_
         refine jnt ?_
         refine jsr ?_
         refine jz ?_
         refine jz ?_
         refine jz ?_
         refine juc (goes_func rfl) (fun w1 hw1 => rwnum_any b11 (wByte (z) (x.kind)) (x.amount) hfx.amount w1 (wz) hw1) ?_
         refine jnt ?_
         refine jsr ?_
         refine jz ?_
         refine jz ?_
         refine jz ?_
         refine juc (goes_func rfl) (fun w1 hw1 => rwhash_any b11 (wNum (wByte (z) (x.kind)) (x.amount)) (x.key) (by omega) w1 (wz) hw1) ?_
         refine jnt ?_
         refine jc_seq ?_
         refine jsr ?_
         refine jz ?_
         refine jz ?_
         refine jy (y_neq rfl rfl) ?_
         refine jl_as (u := .bool true) (congrArg Value.bool (decide_eq_true (by omega))) ?_
         refine jnt ?_
         refine jc_true rfl ?_
         refine jsr ?_
         refine jz ?_
         refine jz ?_
         refine jz ?_
         refine juc (goes_func rfl) (fun w1 hw1 => rwhash_any b11 (wHash (wNum (wByte (z) (x.kind)) (x.amount)) (x.key)) (x.gate) (by omega) w1 (wz) hw1) ?_
         refine jnt ?_
         refine jc_region ?_
         refine jz ?_
         refine jz ?_
         refine jz ?_
         first | refine jy (y_conv_fits rfl (by simp only [fits]; omega)) ?_ | refine jy (y_conv_u64 rfl) ?_
         refine jl_as (u := .int .u64 (cntN x.expiry)) (congrArg (Value.int .u64) (cnt_eq (by omega)).symm) ?_
         refine juc (goes_func rfl) (fun w1 hw1 => rwnum_any b11 (wHash (wHash (wNum (wByte (z) (x.kind)) (x.amount)) (x.key)) (x.gate)) (cntN x.expiry) (cntN_fits hfx.expiry) w1 (wz) hw1) ?_
         refine jnt ?_
         refine jc_seq ?_
         refine jsr ?_
         refine jz ?_
         refine jz ?_
         refine jy (y_eql rfl rfl) ?_
         refine jl_as (u := .bool true) (congrArg Value.bool (decide_eq_true (by omega))) ?_
         refine jnt ?_
         refine jc_true rfl ?_
         refine jsr ?_
         refine jz ?_
         refine jz ?_
         refine jz ?_
         refine juc (goes_func rfl) (fun w1 hw1 => rwhash_any b11 (wNum (wHash (wHash (wNum (wByte (z) (x.kind)) (x.amount)) (x.key)) (x.gate)) (cntN x.expiry)) (x.anchor) (by omega) w1 (wz) hw1) ?_
         refine jnt ?_
         refine jsr ?_
         refine jz ?_
         refine jz ?_
         refine jz ?_
         refine juc (goes_func rfl) (fun w1 hw1 => rwnum_any b11 (wHash (wNum (wHash (wHash (wNum (wByte (z) (x.kind)) (x.amount)) (x.key)) (x.gate)) (cntN x.expiry)) (x.anchor)) (x.unit) hfx.unit w1 (wz) hw1) ?_
         refine jnt ?_
         refine jc_region ?_
         refine jz ?_
         refine jz ?_
         refine jz ?_
         first | refine jy (y_conv_fits rfl (by simp only [fits]; omega)) ?_ | refine jy (y_conv_u64 rfl) ?_
         refine jl_as (u := .int .u64 (cntN x.tokens)) (congrArg (Value.int .u64) (cnt_eq (by omega)).symm) ?_
         refine juc (goes_func rfl) (fun w1 hw1 => rwnum_any b11 (wNum (wHash (wNum (wHash (wHash (wNum (wByte (z) (x.kind)) (x.amount)) (x.key)) (x.gate)) (cntN x.expiry)) (x.anchor)) (x.unit)) (cntN x.tokens) (cntN_fits hfx.tokens) w1 (wz) hw1) ?_
         refine jnt ?_
         refine jsr ?_
         refine jz ?_
         refine jz ?_
         refine jy (y_eql rfl rfl) ?_
         refine jl_as (u := .bool false) (congrArg Value.bool (decide_eq_false (by omega))) ?_
         refine jnt ?_
         refine jc_false rfl ?_
         refine jc_skip ?_
         refine jq_block ?_
         refine jq_then ?_
         refine jc_region ?_
         refine jz ?_
         refine jy (y_add_fits rfl rfl (by simp only [fits]; omega)) ?_
         refine jz ?_
         refine jl_nil ?_
         refine jq_round (i := j) (j + 1) ?_ ?_ ?_
         ·omega
         ·exact ⟨rfl, rfl, lk_int rfl (by omega), trivial⟩
         ·exact fun _ h => ⟨by omega, h.pop.cast (by rw [fold_take putOu hlt, hxe, hz]; unfold putOu; first | rw [if_pos (show x.kind = 1 by omega)] | rw [if_neg (show ¬ x.kind = 1 by omega), if_pos (show x.kind = 3 by omega)] | rw [if_neg (show ¬ x.kind = 1 by omega), if_neg (show ¬ x.kind = 3 by omega)])⟩
        ·skip
         refine jc_region ?_
         refine jz ?_
         refine jz ?_
         refine jz ?_
         refine jy (y_indexAddr_slice (off := oo + j * 9) rfl rfl (by omega) (by omega) (by omega)) ?_
         refine jy (y_loadAgg_old rfl rfl hold (by simp)) ?_
         refine jl_m rfl (by decide) rfl (m_alloc) (fun b6 => ?_)
         refine jst ?_
         refine jnt ?_
         refine jsr ?_
         refine jz ?_
         refine jz ?_
         refine jz ?_
         refine juc (goes_func rfl) (fun w1 hw1 => rwbyte_any b11 (z) (x.kind) hfx.kind w1 (wz) hw1) ?_
         refine jnt ?_
         refine jsr ?_
         refine jz ?_
         refine jz ?_
         refine jz ?_
         refine juc (goes_func rfl) (fun w1 hw1 => rwnum_any b11 (wByte (z) (x.kind)) (x.amount) hfx.amount w1 (wz) hw1) ?_
         refine jnt ?_
         refine jsr ?_
         refine jz ?_
         refine jz ?_
         refine jz ?_
         refine juc (goes_func rfl) (fun w1 hw1 => rwhash_any b11 (wNum (wByte (z) (x.kind)) (x.amount)) (x.key) (by omega) w1 (wz) hw1) ?_
         refine jnt ?_
         refine jc_seq ?_
         refine jsr ?_
         refine jz ?_
         refine jz ?_
         refine jy (y_neq rfl rfl) ?_
         refine jl_as (u := .bool true) (congrArg Value.bool (decide_eq_true (by omega))) ?_
         refine jnt ?_
         refine jc_true rfl ?_
         refine jsr ?_
         refine jz ?_
         refine jz ?_
         refine jz ?_
         refine juc (goes_func rfl) (fun w1 hw1 => rwhash_any b11 (wHash (wNum (wByte (z) (x.kind)) (x.amount)) (x.key)) (x.gate) (by omega) w1 (wz) hw1) ?_
         refine jnt ?_
         refine jc_region ?_
         refine jz ?_
         refine jz ?_
         refine jz ?_
         first | refine jy (y_conv_fits rfl (by simp only [fits]; omega)) ?_ | refine jy (y_conv_u64 rfl) ?_
         refine jl_as (u := .int .u64 (cntN x.expiry)) (congrArg (Value.int .u64) (cnt_eq (by omega)).symm) ?_
         refine juc (goes_func rfl) (fun w1 hw1 => rwnum_any b11 (wHash (wHash (wNum (wByte (z) (x.kind)) (x.amount)) (x.key)) (x.gate)) (cntN x.expiry) (cntN_fits hfx.expiry) w1 (wz) hw1) ?_
         refine jnt ?_
         refine jc_seq ?_
         refine jsr ?_
         refine jz ?_
         refine jz ?_
         refine jy (y_eql rfl rfl) ?_
         refine jl_as (u := .bool false) (congrArg Value.bool (decide_eq_false (by omega))) ?_
         refine jnt ?_
         refine jc_false rfl ?_
         refine jc_skip ?_
         refine jq_then ?_
         refine jsr ?_
         refine jz ?_
         refine jz ?_
         refine jy (y_eql rfl rfl) ?_
         refine jl_as (u := .bool true) (congrArg Value.bool (decide_eq_true (by omega))) ?_
         refine jnt ?_
         refine jc_true rfl ?_
         refine jc_region ?_
         refine jz ?_
         refine jz ?_
         refine jz ?_
         refine juc (goes_func rfl) (fun w1 hw1 => rwhash_any b11 (wNum (wHash (wHash (wNum (wByte (z) (x.kind)) (x.amount)) (x.key)) (x.gate)) (cntN x.expiry)) (x.of) (by omega) w1 (wz) hw1) ?_
         refine jl_nil ?_
         refine jq_block ?_
         refine jq_then ?_
         refine jc_region ?_
         refine jz ?_
         refine jy (y_add_fits rfl rfl (by simp only [fits]; omega)) ?_
         refine jz ?_
         refine jl_nil ?_
         refine jq_round (i := j) (j + 1) ?_ ?_ ?_
         ·omega
         ·exact ⟨rfl, rfl, lk_int rfl (by omega), trivial⟩
         ·exact fun _ h => ⟨by omega, h.pop.cast (by rw [fold_take putOu hlt, hxe, hz]; unfold putOu; first | rw [if_pos (show x.kind = 1 by omega)] | rw [if_neg (show ¬ x.kind = 1 by omega), if_pos (show x.kind = 3 by omega)] | rw [if_neg (show ¬ x.kind = 1 by omega), if_neg (show ¬ x.kind = 3 by omega)])⟩
        )
      ·first
       | (exfalso; omega)
       | (
        refine jnt ?_
        refine jc_false rfl ?_
        refine jc_exit ?_
        refine jq_then_exit ?_
        refine jq_then_exit ?_
        refine jq_hit ?_
        refine jq_then ?_
        refine jsr ?_
        refine jz ?_
        refine jpc (goes_func rfl) (fun w1 hw1 => rwtext_any b11 ((t.outs.take j).foldl putOu (wByte (txIns t) t.outs.length)) w1 (CellAt.of_cells (hw1.get (A := .cells b11 [.string ((t.outs.take j).foldl putOu (wByte (txIns t) t.outs.length)).1, .int .i64 ((t.outs.take j).foldl putOu (wByte (txIns t) t.outs.length)).2]) mem0) rfl) (CellAt.of_cells (hw1.get (A := .cells b11 [.string ((t.outs.take j).foldl putOu (wByte (txIns t) t.outs.length)).1, .int .i64 ((t.outs.take j).foldl putOu (wByte (txIns t) t.outs.length)).2]) mem0) rfl)) ?_
        refine jz ?_
        refine jnt ?_
        refine jc_ret ?_
        refine jq_ret1 rfl rfl ?_
        exact fun _ hw => ⟨by unfold txCore txPut; rw [if_pos hrb, List.take_of_length_le (by omega)], hw.ch⟩
        )
     )
 ·skip
  refine jz ?_
  refine jnt ?_
  refine jc_true rfl ?_
  refine jsr ?_
  refine jz ?_
  refine jnt ?_
  refine jc_ret ?_
  refine jq_then_ret ?_
  refine jq_ret1 rfl rfl ?_
  exact fun _ hw => ⟨by unfold txCore; rw [if_neg (by simp_all)], hw.ch⟩

theorem rtxid_any (t : Trx) (a1 : Option Addr) (c1 : Nat) (a2 : Option Addr) (c2 : Nat) (a3 : Option Addr) (c3 : Nat) (w : World) (hf : t.Fit) (h1 : ElAt w a1 4 (t.ins.map Inp.c)) (h2 : ElAt w a2 9 (t.outs.map Oup.c)) (h3 : ElAt w a3 10 (t.pf.wins.map Wn.c)) (l1 : t.ins.length ≤ 1000000000) (l2 : t.outs.length ≤ 1000000000) (l3 : t.pf.wins.length ≤ 1000000000) :
  Calls Tryz.prog 32 #[.agg (Trx.c t a1 c1 a2 c2 a3 c3).toArray] w fun e w' => e = .returned (.string (txID t)) ∧ Ch [] w w' := by
 refine calls_of (n := 10) (E := [(0, .agg (Trx.c t a1 c1 a2 c2 a3 c3).toArray)]) (W := Hp w [] []) Tryz.func32 rfl rfl (Nat.le_of_ble_eq_true rfl) rfl (Hp.nil _ _) ?_
 refine jsr ?_
 refine jl_m rfl (by decide) rfl (m_box rfl rfl) (fun b1 => ?_)
 refine jz ?_
 refine jnt ?_
 refine jc_seq ?_
 refine jsr ?_
 refine jz ?_
 refine jpc (goes_func rfl) (fun w1 hw1 => rtxright_any t a1 c1 a2 c2 a3 c3 w1 hf (h1.keep hw1) (h2.keep hw1) (h3.keep hw1) l1 l2 l3) ?_
 refine jl_bool (fun h4 => ?_) (fun h4 => ?_)
 ·skip
  have hrb : txRight t = true := by assumption
  have hcn : ¬ txCore t = ⟨#[]⟩ := core_ne hrb
  refine jz ?_
  refine jnt ?_
  refine jc_false rfl ?_
  refine jc_skip ?_
  refine jq_then ?_
  refine jsr ?_
  refine jz ?_
  refine jpc (goes_func rfl) (fun w1 hw1 => rtxcore_any t a1 c1 a2 c2 a3 c3 w1 hf (h1.keep hw1) (h2.keep hw1) (h3.keep hw1) l1 l2 l3) ?_
  refine jl_m rfl (by decide) rfl (m_buildSlice (by decide) (Built.cell rfl rfl rfl (by repeat constructor) Built.nil)) (fun b8 => ?_)
  refine jpc (goes_func rfl) (fun w1 hw1 => rtag_any strTx (some ⟨b8, 0, none⟩) 1 [txCore t] w1 (by decide) (by simp) (all1 (by have := txCore_size (t := t); omega)) (Strs.of_row (hw1.get mem0))) ?_
  refine jz ?_
  refine jnt ?_
  refine jc_ret ?_
  refine jq_ret1 rfl rfl ?_
  exact fun _ hw => ⟨by unfold txID; rw [if_neg hcn], hw.ch⟩
 ·skip
  have hcz : txCore t = ⟨#[]⟩ := by unfold txCore; rw [if_neg (by simp_all)]
  refine jz ?_
  refine jnt ?_
  refine jc_true rfl ?_
  refine jsr ?_
  refine jz ?_
  refine jnt ?_
  refine jc_ret ?_
  refine jq_then_ret ?_
  refine jq_ret1 rfl rfl ?_
  exact fun _ hw => ⟨by unfold txID; rw [if_pos hcz], hw.ch⟩

theorem rtxenc_any (t : Trx) (a1 : Option Addr) (c1 : Nat) (a2 : Option Addr) (c2 : Nat) (a3 : Option Addr) (c3 : Nat) (w : World) (hf : t.Fit) (h1 : ElAt w a1 4 (t.ins.map Inp.c)) (h2 : ElAt w a2 9 (t.outs.map Oup.c)) (h3 : ElAt w a3 10 (t.pf.wins.map Wn.c)) (l1 : t.ins.length ≤ 1000000000) (l2 : t.outs.length ≤ 1000000000) (l3 : t.pf.wins.length ≤ 1000000000) :
  Calls Tryz.prog 45 #[.agg (Trx.c t a1 c1 a2 c2 a3 c3).toArray] w fun e w' => e = .returned (.string (txEnc t)) ∧ Ch [] w w' := by
 refine calls_of (n := 36) (E := [(0, .agg (Trx.c t a1 c1 a2 c2 a3 c3).toArray)]) (W := Hp w [] []) Tryz.func45 rfl rfl (Nat.le_of_ble_eq_true rfl) rfl (Hp.nil _ _) ?_
 refine jsr ?_
 refine jl_m rfl (by decide) rfl (m_box rfl rfl) (fun b1 => ?_)
 refine jz ?_
 refine jnt ?_
 refine jc_seq ?_
 refine jsr ?_
 refine jz ?_
 refine jpc (goes_func rfl) (fun w1 hw1 => rtxright_any t a1 c1 a2 c2 a3 c3 w1 hf (h1.keep hw1) (h2.keep hw1) (h3.keep hw1) l1 l2 l3) ?_
 refine jl_bool (fun h6 => ?_) (fun h6 => ?_)
 ·skip
  have hrb : txRight t = true := by assumption
  obtain ⟨r1, r2, r3, r4, r5, r6⟩ := txRight_iff.1 hrb
  have hcs := txCore_size (t := t)
  have hps := pfEnc_size t.pf
  refine jz ?_
  refine jnt ?_
  refine jc_false rfl ?_
  refine jc_skip ?_
  refine jq_then ?_
  refine jsr ?_
  refine jy (y_build Built.nil) ?_
  refine jl_m rfl (by decide) rfl (m_box rfl rfl) (fun b9 => ?_)
  refine jz ?_
  refine jnt ?_
  refine jsr ?_
  refine jz ?_
  refine jz ?_
  refine jpc (goes_func rfl) (fun w1 hw1 => rtxcore_any t a1 c1 a2 c2 a3 c3 w1 hf (h1.keep hw1) (h2.keep hw1) (h3.keep hw1) l1 l2 l3) ?_
  refine juc (goes_func rfl) (fun w1 hw1 => rwblob_any b9 w0 (txCore t) (by omega) w1 (by decide) hw1) ?_
  refine jnt ?_
  refine jc_seq ?_
  refine jsr ?_
  refine jz ?_
  refine jnt ?_
  refine jc_block ?_
  refine jc_loop (fun (i : Nat) => [(1, .pointer (some ⟨b1, 0, none⟩)), (3, .pointer (some ⟨b9, 0, none⟩)), (4, .int .i64 (i : Nat))]) (fun (i : Nat) => fun w' => i ≤ t.ins.length ∧ Hp w [] [.cells b9 [.string ((t.ins.take i).foldl putSig (wBlob w0 (txCore t))).1, .int .i64 ((t.ins.take i).foldl putSig (wBlob w0 (txCore t))).2], .cells b1 (Trx.c t a1 c1 a2 c2 a3 c3)] w') (fun (i : Nat) => t.ins.length - i) 0 ?_ ?_ ?_
  ·exact ⟨rfl, rfl, rfl, trivial⟩
  ·exact fun _ h => ⟨by omega, h⟩
  ·intro i
   refine jc_and (fun hi => ?_)
   refine jc_seq ?_
   refine jsr ?_
   refine jz ?_
   refine jz ?_
   refine jz ?_
   refine jy (y_len_slice rfl) ?_
   refine jy (y_lss rfl rfl) ?_
   refine jl_prop (fun h18 => ?_) (fun h18 => ?_)
   ·first
    | (exfalso; omega)
    | (
     have hlt : i < t.ins.length := by omega
     have hfx := hf.ins _ (List.getElem_mem hlt)
     have hrx := r1 _ (List.getElem_mem hlt)
     obtain ⟨bb, oo, ea, hold⟩ := h1.get hlt
     subst ea
     generalize hxe : t.ins[i]'hlt = x at *
     have hrx2 := inFits_iff.1 hrx
     have hzs := txSigs_size t (l := t.ins.take i) (by rw [List.length_take]; omega)
     generalize hz : (t.ins.take i).foldl putSig (wBlob w0 (txCore t)) = z at *
     refine jnt ?_
     refine jc_true rfl ?_
     refine jc_skip ?_
     refine jq_then ?_
     refine jc_seq ?_
     refine jc_block ?_
     refine jc_region ?_
     refine jz ?_
     refine jz ?_
     refine jz ?_
     refine jz ?_
     refine jy (y_indexAddr_slice (off := oo + i * 4) rfl rfl (by omega) (by omega) (by omega)) ?_
     refine jz ?_
     refine jy (y_load_old rfl (hold 3 _ rfl) (by simp)) ?_
     refine juc (goes_func rfl) (fun w1 hw1 => rwblob_any b9 z x.sig (by omega) w1 (by omega) hw1) ?_
     refine jl_nil ?_
     refine jq_block ?_
     refine jq_then ?_
     refine jc_region ?_
     refine jz ?_
     refine jy (y_add_fits rfl rfl (by simp only [fits]; omega)) ?_
     refine jz ?_
     refine jl_nil ?_
     refine jq_round (i := i) (i + 1) ?_ ?_ ?_
     ·omega
     ·exact ⟨rfl, rfl, lk_int rfl (by omega), trivial⟩
     ·exact fun _ h => ⟨by omega, h.cast (by rw [fold_take putSig hlt, hxe, hz]; rfl)⟩
     )
   ·first
    | (exfalso; omega)
    | (
     refine jnt ?_
     refine jc_false rfl ?_
     refine jc_exit ?_
     refine jq_then_exit ?_
     refine jq_then_exit ?_
     refine jq_hit ?_
     refine jq_then ?_
     refine jc_seq ?_
     refine jc_world (fun _ h => h.cast (H' := [.cells b9 [.string (txSigs t).1, .int .i64 (txSigs t).2], .cells b1 (Trx.c t a1 c1 a2 c2 a3 c3)]) (by rw [List.take_of_length_le (by omega)]; rfl)) ?_
     have hzs := txSigs_size t (l := t.ins) (by omega)
     refine jc_region ?_
     refine jz ?_
     refine jz ?_
     refine jz ?_
     refine jpc (goes_func rfl) (fun w1 hw1 => renc_any t.pf a3 c3 w1 (h3.keep hw1) hf.pf l3) ?_
     refine juc (goes_func rfl) (fun w1 hw1 => rwblob_any b9 (txSigs t) (pfEnc t.pf) (by omega) w1 (by have : (txSigs t).1.size + 0 ≤ 100000 := hzs; omega) hw1) ?_
     refine jnt ?_
     refine jsr ?_
     refine jz ?_
     refine jpc (goes_func rfl) (fun w1 hw1 => rwtext_any b9 (wBlob (txSigs t) (pfEnc t.pf)) w1 (CellAt.of_cells (hw1.get (A := .cells b9 [.string (wBlob (txSigs t) (pfEnc t.pf)).1, .int .i64 (wBlob (txSigs t) (pfEnc t.pf)).2]) mem0) rfl) (CellAt.of_cells (hw1.get (A := .cells b9 [.string (wBlob (txSigs t) (pfEnc t.pf)).1, .int .i64 (wBlob (txSigs t) (pfEnc t.pf)).2]) mem0) rfl)) ?_
     refine jz ?_
     refine jnt ?_
     refine jc_ret ?_
     refine jq_ret1 rfl rfl ?_
     exact fun _ hw => ⟨by unfold txEnc; rw [if_pos hrb], hw.ch⟩
     )
 ·skip
  refine jz ?_
  refine jnt ?_
  refine jc_true rfl ?_
  refine jsr ?_
  refine jz ?_
  refine jnt ?_
  refine jc_ret ?_
  refine jq_then_ret ?_
  refine jq_ret1 rfl rfl ?_
  exact fun _ hw => ⟨by unfold txEnc; rw [if_neg (by simp_all)], hw.ch⟩

end Go.Proofs.YtomhcibbalhgkaaGreat

namespace Go.Proofs.YtomhcibbalhgkaaGreat
open Go.RowKit
set_option maxRecDepth 100000
set_option maxHeartbeats 4000000
set_option linter.unusedVariables false
set_option linter.unusedSimpArgs false
attribute [local irreducible] Yields Makes Writes
theorem cq {P : Program} {f : Nat} {a : Array Value} {w : World} {u v : Value} (h : Calls P f a w fun e w' => e = .returned v ∧ Ch [] w w') (e : v = u) : Calls P f a w fun e w' => e = .returned u ∧ Ch [] w w' := e ▸ h
abbrev h16 : ByteArray := ⟨#[48, 49, 50, 51, 52, 53, 54, 55, 56, 57, 97, 98, 99, 100, 101, 102]⟩
abbrev fxI : Inp := ⟨⟨h16, 1⟩, 1, ⟨#[115]⟩⟩
abbrev fxO : Oup := ⟨1, 5, h16, ⟨#[]⟩, 0, ⟨#[]⟩, 0, 0, ⟨#[]⟩⟩
abbrev fxT : Trx := ⟨[fxI], [fxO], pf0⟩
def fxE : ByteArray := txEnc fxT
def fxC : ByteArray := txCore fxT
def fxP : ByteArray := pfEnc pf0
theorem fxE_eq : txEnc fxT = fxE := rfl
theorem fxC_eq : txCore fxT = fxC := rfl
theorem fxP_eq : pfEnc pf0 = fxP := rfl
theorem fxE_size : fxE.size ≤ 200 := by decide +kernel
theorem fxC_size : fxC.size ≤ 200 := by decide +kernel
theorem fxP_size : fxP.size ≤ 200 := by decide +kernel
theorem fx1 : ⟨#[67, 1]⟩ ++ h16 ++ ⟨#[1, 1, 1, 1, 0, 0, 0, 0, 0, 0, 0, 5]⟩ ++ h16 = fxC := by decide +kernel
theorem fx2 : ⟨#[0]⟩ ++ oneB fxC.size ++ fxC ++ ⟨#[0, 1, 115, 0, 13]⟩ ++ fxP = fxE := by decide +kernel
theorem fxId : txID fxT = tagS strTx [fxC] := by
  have h : ¬ fxC = ⟨#[]⟩ := by decide +kernel
  unfold txID
  rw [fxC_eq, if_neg h]
theorem fxId0 : txID tx0 = ⟨#[]⟩ := by decide +kernel
theorem fxNm : pntName ⟨h16, 2⟩ = tagS strLock [h16, ⟨#[2]⟩] := by
  unfold pntName
  rw [show oneB (Pnt.mk h16 2).out = ⟨#[2]⟩ by decide +kernel]
theorem fx3 : txErr fxE = 0 := by decide +kernel
theorem fx4 : txDec fxE = fxT := by decide +kernel
def fxX : ByteArray := fxE ++ ⟨#[120]⟩
theorem fxX_eq : fxE ++ ⟨#[120]⟩ = fxX := rfl
theorem fxX_size : fxX.size ≤ 200 := by decide +kernel
def fxY : ByteArray := ⟨#[]⟩
theorem fx5 : txErr fxX = 4 := by decide +kernel
theorem fx5d : txDec fxX = tx0 := by decide +kernel
theorem fx6 : txErr fxY = 3 := by decide +kernel
theorem fx6d : txDec fxY = tx0 := by decide +kernel
abbrev fxo (n : Int) : Oup := ⟨0, n, ⟨#[]⟩, ⟨#[]⟩, 0, ⟨#[]⟩, 0, 0, ⟨#[]⟩⟩
theorem fxo_fit {n : Int} (h : 0 ≤ n ∧ n ≤ 18446744073709551615) : (fxo n).Fit := ⟨(by simp only [fits]; decide), h, (by simp only [fits]; decide), (by simp only [fits]; decide), (by simp only [fits]; decide)⟩
theorem fxo_two {m n : Int} (h : 0 ≤ m ∧ m ≤ 18446744073709551615) (h2 : 0 ≤ n ∧ n ≤ 18446744073709551615) : ∀ o ∈ [fxo m, fxo n], o.Fit := by
  intro o ho
  rcases List.mem_cons.1 ho with rfl | ho
  · exact fxo_fit h
  · rw [List.mem_singleton.1 ho]; exact fxo_fit h2
theorem fxW1 : sumA ([fxo 3, fxo 4].map Oup.amount) = 7 ∧ sumE ([fxo 3, fxo 4].map Oup.amount) = 0 := by decide
theorem fxW2 : sumA ([fxo 9223372036854775808, fxo 9223372036854775808].map Oup.amount) = 0 ∧ sumE ([fxo 9223372036854775808, fxo 9223372036854775808].map Oup.amount) = 2 := by decide
theorem fxF1 : ouFits ⟨2, 1, h16, h16, 9, h16, 2, 3, ⟨#[]⟩⟩ = true := by decide +kernel
theorem fxF2 : ouFits ⟨3, 1, h16, h16, 9, ⟨#[]⟩, 0, 0, h16⟩ = true := by decide +kernel
theorem fxF3 : ouFits ⟨1, 1, h16, ⟨#[]⟩, 0, ⟨#[]⟩, 0, 0, h16⟩ = false := by decide +kernel
theorem fxR0 : txRight tx0 = false := by decide +kernel
theorem fxFit : fxT.Fit := ⟨fun i hi => by rw [List.mem_singleton.1 hi]; exact ⟨(by simp only [fits]; decide), (by simp only [fits]; decide)⟩, fun o ho => by rw [List.mem_singleton.1 ho]; exact ⟨(by simp only [fits]; decide), (by simp only [fits]; decide), (by simp only [fits]; decide), (by simp only [fits]; decide), (by simp only [fits]; decide)⟩, ⟨(by simp only [fits]; decide), fun x hx => by cases hx⟩⟩
theorem fxFit0 : tx0.Fit := ⟨fun i hi => (by cases hi), fun o ho => (by cases ho), ⟨(by simp only [fits]; decide), fun x hx => by cases hx⟩⟩
theorem el_nil {w : World} {ad : Option Addr} {n : Nat} : ElAt w ad n [] := fun i cs h => by simp at h
theorem z0 : (⟨#[0]⟩ : ByteArray).size = 1 := rfl
theorem z5 : (⟨#[0, 1, 115, 0, 13]⟩ : ByteArray).size = 5 := rfl
theorem z120 : (⟨#[120]⟩ : ByteArray).size = 1 := rfl
theorem fxY_eq : Value.string ⟨#[]⟩ = .string fxY := rfl
theorem codecY (w : World) : Calls Tryz.prog 85 #[.string ⟨#[]⟩] w fun e w' => ∃ pr : (Option Addr × Nat) × (Option Addr × Nat) × (Option Addr × Nat), e = .returned (.tuple #[.agg (Trx.c tx0 pr.1.1 pr.1.2 pr.2.1.1 pr.2.1.2 pr.2.2.1 pr.2.2.2).toArray, .int .i64 3]) ∧ Hp w [] [.row pr.1.1 tx0.ins.length pr.1.2 97 4 (tx0.ins.flatMap Inp.c), .row pr.2.1.1 tx0.outs.length pr.2.1.2 56 9 (tx0.outs.flatMap Oup.c), .row pr.2.2.1 tx0.pf.wins.length pr.2.2.2 135 10 (tx0.pf.wins.flatMap Wn.c)] w' := by
  have h := codec_any fxY w (by decide)
  rw [fx6, fx6d] at h
  exact h
attribute [irreducible] fxE fxC fxP fxX fxY

end Go.Proofs.YtomhcibbalhgkaaGreat

namespace Go.Proofs.YtomhcibbalhgkaaGreat
open Go.RowKit
set_option maxRecDepth 100000
set_option maxHeartbeats 4000000
set_option linter.unusedVariables false
set_option linter.unusedSimpArgs false
attribute [local irreducible] Yields Makes Writes
theorem rq5 {A A' B C D F G : HA} {H : List HA} : Rep A A' (B :: C :: D :: F :: G :: A :: H) (B :: C :: D :: F :: G :: A' :: H) := .tail (.tail (.tail (.tail (.tail .head))))
theorem dT_fit (S : ByteArray) : (dT S).Fit := by
  refine ⟨sgL_fit _ _ _ (fun i hi => ?_) _, fun o ho => ?_, pfDec_fit _⟩
  · have : i ∈ (cI (dC S)).1 := hi
    unfold cI at this
    exact rdMany_all (P := fun i : Inp => i.Fit) (fun y => rdIn_fit _ y) _ _ i this
  · have : o ∈ (cO (dC S)).1 := ho
    unfold cO at this
    exact rdMany_all (P := fun i : Oup => i.Fit) (fun y => rdOu_fit _ y) _ _ o this
attribute [local irreducible] dC dA dI dB dP dE coTrx

theorem eq_rin (m : Nat) (x y : Inp) (w : World) : (Op.equalIn (m + 3) 104 (.agg (Inp.c x).toArray) (.agg (Inp.c y).toArray)).run Tryz.prog w = .ok (decide (x = y)) w := by
  rw [run_equalIn_agg _ _ 104 _ _ (by kernel_rfl) (by kernel_rfl), show (Program.fieldsOf Tryz.prog 104).toList = [((fsOf (Tryz.prog.underlying 104)).getD 0 default), ((fsOf (Tryz.prog.underlying 104)).getD 1 default), ((fsOf (Tryz.prog.underlying 104)).getD 2 default)] from by kernel_rfl]
  refine Eq.trans (eqF_agg (by kernel_rfl) (T := 43) (by kernel_rfl) (off := 0) (by kernel_rfl) (by repeat constructor) (by repeat constructor) (eq_pnt m x.pt y.pt w) (eqF_cell (by kernel_rfl) (T := 3) (by kernel_rfl) (off := 2) (by kernel_rfl) rfl rfl (equalIn_int (m + 1) _ _ w) (eqF_cell (by kernel_rfl) (T := 9) (by kernel_rfl) (off := 3) (by kernel_rfl) rfl rfl (equalIn_str (m + 1) _ _ w) eqF_nil))) ?_
  congr 1
  rw [Bool.eq_iff_iff]
  cases x; cases y
  simp
theorem rcosame_any (t : Trx) (a1 : Option Addr) (c1 : Nat) (a2 : Option Addr) (c2 : Nat) (a3 : Option Addr) (c3 : Nat) (u : Trx) (e1 : Option Addr) (d1 : Nat) (e2 : Option Addr) (d2 : Nat) (e3 : Option Addr) (d3 : Nat) (w : World) (h1 : ElAt w a1 4 (t.ins.map Inp.c)) (h2 : ElAt w a2 9 (t.outs.map Oup.c)) (h3 : ElAt w a3 10 (t.pf.wins.map Wn.c)) (k1 : ElAt w e1 4 (u.ins.map Inp.c)) (k2 : ElAt w e2 9 (u.outs.map Oup.c)) (k3 : ElAt w e3 10 (u.pf.wins.map Wn.c)) (l1 : t.ins.length ≤ 1000000000) (l2 : t.outs.length ≤ 1000000000) (l3 : t.pf.wins.length ≤ 1000000000) (m1 : u.ins.length ≤ 1000000000) (m2 : u.outs.length ≤ 1000000000) (m3 : u.pf.wins.length ≤ 1000000000) :
  Calls Tryz.prog 49 #[.agg (Trx.c t a1 c1 a2 c2 a3 c3).toArray, .agg (Trx.c u e1 d1 e2 d2 e3 d3).toArray] w fun e w' => e = .returned (.bool (decide (t = u))) ∧ Ch [] w w' := by
 refine calls_of (n := 64) (E := [(0, .agg (Trx.c t a1 c1 a2 c2 a3 c3).toArray), (1, .agg (Trx.c u e1 d1 e2 d2 e3 d3).toArray)]) (W := Hp w [] []) Tryz.func49 rfl rfl (Nat.le_of_ble_eq_true rfl) rfl (Hp.nil _ _) ?_
 refine jsr ?_
 refine jl_m rfl (by decide) rfl (m_box rfl rfl) (fun b2 => ?_)
 refine jl_m rfl (by decide) rfl (m_box rfl rfl) (fun b3 => ?_)
 refine jz ?_
 refine jnt ?_
 refine jc_seq ?_
 refine jsr ?_
 refine jz ?_
 refine jz ?_
 refine jy (y_len_slice rfl) ?_
 refine jz ?_
 refine jz ?_
 refine jy (y_len_slice rfl) ?_
 refine jy (y_neq rfl rfl) ?_
 refine jl_prop (fun h13 => ?_) (fun h13 => ?_)
 ·first
  | (exfalso; omega)
  | (
   refine jz ?_
   refine jsk ?_
   refine jsk ?_
   refine jsk ?_
   refine jsk ?_
   refine jsk ?_
   refine jsk ?_
   refine jsk ?_
   refine jy (y_pick_true rfl rfl) ?_
   refine jnt ?_
   refine jc_true rfl ?_
   refine jsr ?_
   refine jz ?_
   refine jnt ?_
   refine jc_ret ?_
   refine jq_then_ret ?_
   refine jq_ret1 rfl rfl ?_
   exact fun _ hw => ⟨congrArg (fun b => Ending.returned (Value.bool b)) ((decide_eq_false (fun h => by subst h; omega)).symm), hw.ch⟩
   )
 ·first
  | (exfalso; omega)
  | (
   refine jz ?_
   refine jz ?_
   refine jz ?_
   refine jy (y_len_slice rfl) ?_
   refine jz ?_
   refine jz ?_
   refine jy (y_len_slice rfl) ?_
   refine jy (y_neq rfl rfl) ?_
   refine jl_prop (fun h21 => ?_) (fun h21 => ?_)
   ·first
    | (exfalso; omega)
    | (
     refine jy (y_pick_false rfl rfl) ?_
     refine jnt ?_
     refine jc_true rfl ?_
     refine jsr ?_
     refine jz ?_
     refine jnt ?_
     refine jc_ret ?_
     refine jq_then_ret ?_
     refine jq_ret1 rfl rfl ?_
     exact fun _ hw => ⟨congrArg (fun b => Ending.returned (Value.bool b)) ((decide_eq_false (fun h => by subst h; omega)).symm), hw.ch⟩
     )
   ·first
    | (exfalso; omega)
    | (
     refine jy (y_pick_false rfl rfl) ?_
     refine jnt ?_
     refine jc_false rfl ?_
     refine jc_skip ?_
     refine jq_then ?_
     refine jc_seq ?_
     refine jsr ?_
     refine jz ?_
     refine jnt ?_
     refine jc_block ?_
     refine jc_loop (fun (i : Nat) => [(2, .pointer (some ⟨b2, 0, none⟩)), (3, .pointer (some ⟨b3, 0, none⟩)), (5, .int .i64 (i : Nat))]) (fun (i : Nat) => fun w' => (i ≤ t.ins.length ∧ t.ins.take i = u.ins.take i) ∧ Hp w [] [.cells b3 (Trx.c u e1 d1 e2 d2 e3 d3), .cells b2 (Trx.c t a1 c1 a2 c2 a3 c3)] w') (fun (i : Nat) => t.ins.length - i) 0 ?_ ?_ ?_
     ·exact ⟨rfl, rfl, rfl, trivial⟩
     ·exact fun _ h => ⟨⟨by omega, rfl⟩, h⟩
     ·intro i
      refine jc_and (fun hi => ?_)
      refine jc_seq ?_
      refine jsr ?_
      refine jz ?_
      refine jz ?_
      refine jz ?_
      refine jy (y_len_slice rfl) ?_
      refine jy (y_lss rfl rfl) ?_
      refine jl_prop (fun h27 => ?_) (fun h27 => ?_)
      ·first
       | (exfalso; omega)
       | (
        have hlt : i < t.ins.length := by omega
        have hlq : i < u.ins.length := by omega
        obtain ⟨bb, oo, ea, hold⟩ := h1.get hlt
        obtain ⟨bq, oq, eq, holq⟩ := k1.get hlq
        subst ea
        subst eq
        generalize hxe : t.ins[i]'hlt = x at *
        generalize hye : u.ins[i]'hlq = y at *
        refine jnt ?_
        refine jc_true rfl ?_
        refine jc_skip ?_
        refine jq_then ?_
        refine jc_seq ?_
        refine jc_block ?_
        refine jc_seq ?_
        refine jc_draw (by kernel_rfl) (fun _ h => h.drew) ?_
        refine juz ?_
        refine juz ?_
        refine juz ?_
        refine juy (y_indexAddr_slice (off := oo + i * 4) rfl rfl (by omega) (by omega) (by omega)) ?_
        refine juy (y_loadAgg_old rfl rfl hold (by simp)) ?_
        refine juz ?_
        refine juz ?_
        refine juz ?_
        refine juy (y_indexAddr_slice (off := oq + i * 4) rfl rfl (by omega) (by omega) (by omega)) ?_
        refine juy (y_loadAgg_old rfl rfl holq (by simp)) ?_
        refine juy (y_neq_agg rfl rfl (by kernel_rfl) (fun w => eq_rin 9997 x y w)) ?_
        refine ju_bool (fun h40 => ?_) (fun h40 => ?_)
        ·skip
         refine ju_nil ?_
         refine jq_then ?_
         refine jc_true rfl ?_
         refine jsr ?_
         refine jz ?_
         refine jnt ?_
         refine jc_ret ?_
         refine jq_block_ret ?_
         refine jq_then_ret ?_
         refine jq_then_ret ?_
         refine jq_block_ret ?_
         refine jq_then_ret ?_
         refine jq_ret1 rfl rfl ?_
         exact fun _ hw => ⟨congrArg (fun b => Ending.returned (Value.bool b)) ((decide_eq_false (fun h => get_ne hlt hlq hxe hye (by first | assumption | simp_all) (congrArg Trx.ins h))).symm), hw.ch⟩
        ·skip
         refine ju_nil ?_
         refine jq_then ?_
         refine jc_false rfl ?_
         refine jc_skip ?_
         refine jq_block ?_
         refine jq_then ?_
         refine jc_region ?_
         refine jz ?_
         refine jy (y_add_fits rfl rfl (by simp only [fits]; omega)) ?_
         refine jz ?_
         refine jl_nil ?_
         refine jq_round (i := i) (i + 1) ?_ ?_ ?_
         ·omega
         ·exact ⟨rfl, rfl, lk_int rfl (by omega), trivial⟩
         ·exact fun _ h => ⟨⟨by omega, take_both hlt hlq hi.2 (by rw [hxe, hye]; first | assumption | simp_all)⟩, h⟩
        )
      ·first
       | (exfalso; omega)
       | (
        refine jnt ?_
        refine jc_false rfl ?_
        refine jc_exit ?_
        refine jq_then_exit ?_
        refine jq_then_exit ?_
        refine jq_hit ?_
        refine jq_then ?_
        refine jc_seq ?_
        refine jsr ?_
        refine jz ?_
        refine jnt ?_
        refine jc_block ?_
        refine jc_loop (fun (j : Nat) => [(2, .pointer (some ⟨b2, 0, none⟩)), (3, .pointer (some ⟨b3, 0, none⟩)), (6, .int .i64 (j : Nat))]) (fun (j : Nat) => fun w' => (j ≤ t.outs.length ∧ t.outs.take j = u.outs.take j) ∧ Hp w [] [.cells b3 (Trx.c u e1 d1 e2 d2 e3 d3), .cells b2 (Trx.c t a1 c1 a2 c2 a3 c3)] w') (fun (j : Nat) => t.outs.length - j) 0 ?_ ?_ ?_
        ·exact ⟨rfl, rfl, rfl, trivial⟩
        ·exact fun _ h => ⟨⟨by omega, rfl⟩, h⟩
        ·intro j
         refine jc_and (fun hj => ?_)
         refine jc_seq ?_
         refine jsr ?_
         refine jz ?_
         refine jz ?_
         refine jz ?_
         refine jy (y_len_slice rfl) ?_
         refine jy (y_lss rfl rfl) ?_
         refine jl_prop (fun h45 => ?_) (fun h45 => ?_)
         ·first
          | (exfalso; omega)
          | (
           have hlt : j < t.outs.length := by omega
           have hlq : j < u.outs.length := by omega
           obtain ⟨bb, oo, ea, hold⟩ := h2.get hlt
           obtain ⟨bq, oq, eq, holq⟩ := k2.get hlq
           subst ea
           subst eq
           generalize hxe : t.outs[j]'hlt = x at *
           generalize hye : u.outs[j]'hlq = y at *
           refine jnt ?_
           refine jc_true rfl ?_
           refine jc_skip ?_
           refine jq_then ?_
           refine jc_seq ?_
           refine jc_block ?_
           refine jc_seq ?_
           refine jc_draw (by kernel_rfl) (fun _ h => h.drew) ?_
           refine juz ?_
           refine juz ?_
           refine juz ?_
           refine juy (y_indexAddr_slice (off := oo + j * 9) rfl rfl (by omega) (by omega) (by omega)) ?_
           refine juy (y_loadAgg_old rfl rfl hold (by simp)) ?_
           refine juz ?_
           refine juz ?_
           refine juz ?_
           refine juy (y_indexAddr_slice (off := oq + j * 9) rfl rfl (by omega) (by omega) (by omega)) ?_
           refine juy (y_loadAgg_old rfl rfl holq (by simp)) ?_
           refine juy (y_neq_agg rfl rfl (by kernel_rfl) (fun w => eq_rou 9998 x y w)) ?_
           refine ju_bool (fun h58 => ?_) (fun h58 => ?_)
           ·skip
            refine ju_nil ?_
            refine jq_then ?_
            refine jc_true rfl ?_
            refine jsr ?_
            refine jz ?_
            refine jnt ?_
            refine jc_ret ?_
            refine jq_block_ret ?_
            refine jq_then_ret ?_
            refine jq_then_ret ?_
            refine jq_block_ret ?_
            refine jq_then_ret ?_
            refine jq_ret1 rfl rfl ?_
            exact fun _ hw => ⟨congrArg (fun b => Ending.returned (Value.bool b)) ((decide_eq_false (fun h => get_ne hlt hlq hxe hye (by first | assumption | simp_all) (congrArg Trx.outs h))).symm), hw.ch⟩
           ·skip
            refine ju_nil ?_
            refine jq_then ?_
            refine jc_false rfl ?_
            refine jc_skip ?_
            refine jq_block ?_
            refine jq_then ?_
            refine jc_region ?_
            refine jz ?_
            refine jy (y_add_fits rfl rfl (by simp only [fits]; omega)) ?_
            refine jz ?_
            refine jl_nil ?_
            refine jq_round (i := j) (j + 1) ?_ ?_ ?_
            ·omega
            ·exact ⟨rfl, rfl, lk_int rfl (by omega), trivial⟩
            ·exact fun _ h => ⟨⟨by omega, take_both hlt hlq hj.2 (by rw [hxe, hye]; first | assumption | simp_all)⟩, h⟩
           )
         ·first
          | (exfalso; omega)
          | (
           refine jnt ?_
           refine jc_false rfl ?_
           refine jc_exit ?_
           refine jq_then_exit ?_
           refine jq_then_exit ?_
           refine jq_hit ?_
           refine jq_then ?_
           refine jsr ?_
           refine jz ?_
           refine jz ?_
           refine jz ?_
           refine jz ?_
           refine jpc (goes_func rfl) (fun w1 hw1 => rsame_any t.pf u.pf a3 e3 c3 d3 w1 (h3.keep hw1) (k3.keep hw1) l3 m3) ?_
           refine jz ?_
           refine jnt ?_
           refine jc_ret ?_
           refine jq_ret1 rfl rfl ?_
           exact fun _ hw => ⟨congrArg (fun b => Ending.returned (Value.bool b)) (by have q1 : t.ins = u.ins := (by have := hi.2; rwa [List.take_of_length_le (by omega), List.take_of_length_le (by omega)] at this); have q2 : t.outs = u.outs := (by have := hj.2; rwa [List.take_of_length_le (by omega), List.take_of_length_le (by omega)] at this); rw [Bool.eq_iff_iff, decide_eq_true_eq, trx_eq]; unfold pfSame; rw [decide_eq_true_eq]; exact ⟨fun h => ⟨q1, q2, h⟩, fun h => h.2.2⟩), hw.ch⟩
           )
        )
     )
   )

end Go.Proofs.YtomhcibbalhgkaaGreat

namespace Go.Proofs.YtomhcibbalhgkaaGreat
open Go.RowKit
set_option maxRecDepth 100000
set_option maxHeartbeats 1000000
set_option linter.unusedVariables false
set_option linter.unusedSimpArgs false
attribute [local irreducible] Yields Makes Writes
theorem TxsAt.of_ok {q : Blq} {w : World} {tt ti to tw : Nat} (h : ∀ A ∈ q.rows tt ti to tw, A.ok w) : TxsAt w q.ad q.l :=
  ⟨ElAt.of_row (fun _ => rfl) rfl (h _ (.head _)), fun x hx => Txq.at_rows (ti := ti) (to := to) (tw := tw) fun A hA => h _ (.tail _ (List.mem_flatMap.2 ⟨x, hx, hA⟩))⟩
theorem rf_next {l m : List Txq} {i : Nat} {q : Txq} (h : i < l.length) (e : txsQ m = (txsQ l).take i) (hq : q.t = l[i].t := by rfl) : txsQ (m ++ [q]) = (txsQ l).take (i + 1) := by
  have h1 : txsQ (m ++ [q]) = txsQ m ++ [q.t] := by simp
  rw [h1, List.take_succ_eq_append_getElem (by rw [List.length_map]; exact h), e, hq, List.getElem_map]
theorem rbk_no {qh : Int} {qp : ByteArray} {l : List Txq} {ad : Option Addr} {cp i : Nat} {q : Txq} (h : i < l.length) (e : l[i] = q) (hq : txRight q.t = false) : false = bkRight (Blq.mk qh qp l ad cp).b := by
  symm
  rw [Bool.eq_false_iff]
  intro hr
  have := (bkRight_iff.1 hr).2.2.2.2 q.t (List.mem_map.2 ⟨q, e ▸ List.getElem_mem h, rfl⟩)
  rw [hq] at this
  exact absurd this (by decide)
theorem rbk_yes {qh : Int} {qp : ByteArray} {l : List Txq} {ad : Option Addr} {cp : Nat} (h : ∀ x ∈ l, txRight x.t = true) (h2 : 1 ≤ qh ∧ qh ≤ 4294967295 ∧ qp.size = 16 ∧ l.length ≤ 8) : true = bkRight (Blq.mk qh qp l ad cp).b := by
  symm
  rw [bkRight_iff]
  refine ⟨h2.1, h2.2.1, h2.2.2.1, by rw [List.length_map]; exact h2.2.2.2, fun t ht => ?_⟩
  obtain ⟨x, hx, rfl⟩ := List.mem_map.1 ht
  exact h x hx
theorem snoc_hold {L : List Oup} {x : Oup} {i : Nat} (hi : L.length = i) : ∀ j u, (Oup.c x)[j]? = some u → (L.flatMap Oup.c ++ Oup.c x)[i * 9 + j]? = some u := fun j u hj => by
  have hl : (L.flatMap Oup.c).length = i * 9 := by
    rw [← hi]
    clear hi hj
    induction L with
    | nil => rfl
    | cons y L ih => rw [List.flatMap_cons, List.length_append, ih]; show 9 + L.length * 9 = (L.length + 1) * 9; omega
  rw [List.getElem?_append_right (by omega), hl, Nat.add_sub_cancel_left]
  exact hj
theorem rs_one {q r : Blq} (h : q.height = r.height) (ht : txsQ q.l = txsQ r.l) : decide (q.prev = r.prev) = decide (q.b = r.b) := by
  rw [decide_eq_decide, blk_eq]
  exact ⟨fun e => ⟨h, e, ht⟩, fun e => e.2.1⟩
theorem low6 {q : Blq} {b : Blk} (h : q.b = ctBk b) : ∀ x ∈ q.l, x.t.ins.length ≤ 1000000 ∧ x.t.outs.length ≤ 1000000 ∧ x.t.pf.wins.length ≤ 1000000 := fun x hx => by
  have ht : txsQ q.l = (b.txs.take 9).map ctTx := congrArg Blk.txs h
  have h2 : x.t ∈ (b.txs.take 9).map ctTx := by rw [← ht]; exact List.mem_map.2 ⟨x, hx, rfl⟩
  obtain ⟨y, _, e⟩ := List.mem_map.1 h2
  rw [← e]
  have := ctTx_len y
  omega

theorem refbk_of (qh : Int) (qp : ByteArray) (l : List Txq) (ad : Option Addr) (cp : Nat) (w : World) (hl : l.length ≤ 1000000) (hE : TxsAt w ad l) (hS : ∀ x ∈ l, x.t.ins.length ≤ 1000000 ∧ x.t.outs.length ≤ 1000000 ∧ x.t.pf.wins.length ≤ 1000000) :
  Calls Tryz.prog 8 #[.agg (Blq.c ⟨qh, qp, l, ad, cp⟩).toArray] w fun e w' => ∃ q : {q : Blq // q.b = (Blq.mk qh qp l ad cp).b}, e = .returned (.agg (Blq.c q.1).toArray) ∧ Hp w [] (q.1.rows 68 104 58 142) w' := by
 refine calls_of (n := 29) (E := [(0, .agg (Blq.c ⟨qh, qp, l, ad, cp⟩).toArray)]) (W := Hp w [] []) Tryz.func8 rfl rfl (Nat.le_of_ble_eq_true rfl) rfl (Hp.nil _ _) ?_
 refine jsr ?_
 refine jl_m rfl (by decide) rfl (m_box rfl rfl) (fun b1 => ?_)
 refine jl_m rfl (by decide) rfl (m_alloc) (fun b2 => ?_)
 refine jnt ?_
 refine jsr ?_
 refine jz ?_
 refine jz ?_
 refine jz ?_
 refine jz ?_
 refine jy (y_build (Built.cell rfl rfl rfl (by repeat constructor) (Built.cell rfl rfl rfl (by repeat constructor) Built.nil))) ?_
 refine jl_m rfl (by decide) rfl (m_alloc) (fun b3 => ?_)
 refine jst ?_
 refine jnt ?_
 refine jc_seq ?_
 refine jsr ?_
 refine jz ?_
 refine jnt ?_
 refine jc_block ?_
 refine jc_loop4 (fun (i : Nat) (m : List Txq) (au : Option Addr) (cu : Nat) => [(1, .pointer (some ⟨b1, 0, none⟩)), (2, .pointer (some ⟨b2, 0, none⟩)), (3, .pointer (some ⟨b3, 0, none⟩)), (4, .int .i64 (i : Nat))]) (fun (i : Nat) (m : List Txq) (au : Option Addr) (cu : Nat) => fun w' => (i ≤ l.length ∧ m.length = i ∧ txsQ m = (txsQ l).take i) ∧ Hp w [] (.row au (m).length cu 68 6 ((m).flatMap Txq.c) :: .cells b3 [.int .i64 qh, .string qp, .slice au m.length cu] :: .cells b2 [.int .i64 0, .string ⟨#[]⟩, .slice none 0 0] :: .cells b1 (Blq.c ⟨qh, qp, l, ad, cp⟩) :: rowsQ 104 58 142 m) w') (fun (i : Nat) (m : List Txq) (au : Option Addr) (cu : Nat) => l.length - i) 0 [] none 0 ?_ ?_ ?_
 ·exact ⟨rfl, rfl, rfl, rfl, trivial⟩
 ·exact fun _ h => ⟨⟨by omega, rfl, rfl⟩, h.nilrow 68 6⟩
 ·intro i m au cu
  refine jc_and (fun hi => ?_)
  refine jc_seq ?_
  refine jsr ?_
  refine jz ?_
  refine jz ?_
  refine jz ?_
  refine jy (y_len_slice rfl) ?_
  refine jl_as (u := .int .i64 ((l.length : Nat) : Int)) rfl ?_
  refine jy (y_lss rfl rfl) ?_
  refine jl_prop (fun h14 => ?_) (fun h14 => ?_)
  ·first
   | (exfalso; omega)
   | (
    have hlt : i < l.length := by omega
    obtain ⟨bb, oo, ea, hold⟩ := hE.get hlt
    subst ea
    have hqa := hE.each _ (List.getElem_mem hlt)
    have hqs := hS _ (List.getElem_mem hlt)
    have hcn := @rf_next l m i
    generalize hxe : l[i]'hlt = q at *
    refine jnt ?_
    refine jc_true rfl ?_
    refine jc_skip ?_
    refine jq_then ?_
    refine jc_seq ?_
    refine jc_block ?_
    refine jc_schedC (Hp w [] [.cells b3 [.int .i64 qh, .string qp, .slice au m.length cu], .cells b1 (Blq.c ⟨qh, qp, l, some ⟨bb, oo, none⟩, cp⟩)]) 11 [(0, true), (1, true), (2, true), (3, true), (4, true), (5, true), (6, true), (7, false), (8, false), (9, false), (10, true)] rfl (by kernel_rfl) (fun _ _ _ _ h => h) (fun _ h => (h.part (.cons (by first | exact del0 | exact del1 | exact del2 | exact del3 | exact del4 | exact .tail del4 | exact .tail (.tail del4) | exact .tail (.tail (.tail del4))) (.cons (by first | exact del0 | exact del1 | exact del2 | exact del3 | exact del4 | exact .tail del4 | exact .tail (.tail del4) | exact .tail (.tail (.tail del4))) .nil))).drew) (fun _ h => h.drew) ?_
    simp only [pickO, nthO, List.drop_succ_cons, List.drop_zero]
    refine jkz ?_
    refine jkz ?_
    refine jkz ?_
    refine jkz ?_
    refine jkz ?_
    refine jky (y_indexAddr_slice (off := oo + i * 6) rfl rfl (by omega) (by omega) (by omega)) ?_
    refine jky (y_loadAgg_old rfl rfl hold (by simp)) ?_
    refine js_gcall3 (by intros; rename_i h; exact h.part (.cons (by first | exact del0 | exact del1 | exact del2 | exact del3 | exact del4 | exact .tail del4 | exact .tail (.tail del4) | exact .tail (.tail (.tail del4))) (.cons (by first | exact del0 | exact del1 | exact del2 | exact del3 | exact del4 | exact .tail del4 | exact .tail (.tail del4) | exact .tail (.tail (.tail del4))) .nil))) rfl (by decide) rfl (goes_func rfl) (fun w1 hw1 => reftx_any q.t q.a1 q.c1 q.a2 q.c2 q.a3 q.c3 w1 (hqa.ins.keep hw1) (hqa.outs.keep hw1) (hqa.wins.keep hw1) hqs.1 hqs.2.1 hqs.2.2) (fun pd => ?_)
    refine js_m (by intros; rename_i h; exact h.part (.cons (by first | exact del0 | exact del1 | exact del2 | exact del3 | exact del4 | exact .tail del4 | exact .tail (.tail del4) | exact .tail (.tail (.tail del4))) (.cons (by first | exact del0 | exact del1 | exact del2 | exact del3 | exact del4 | exact .tail del4 | exact .tail (.tail del4) | exact .tail (.tail (.tail del4))) .nil))) rfl (by decide) rfl (m_buildSlice (size := 6) (by decide) (Built.agg rfl rfl rfl (by repeat constructor) Built.nil)) (fun b25 => ?_)
    refine js_m2z rfl (by decide) rfl (m_append rfl rfl (by first | exact del0 | exact del1 | exact del2 | exact del3 | exact del4) (by first | exact del0 | exact del1 | exact del2 | exact del3 | exact del4) rfl (by omega) (by omega)) (by intros; rename_i h; exact h.part (.cons (by first | exact del0 | exact del1 | exact del2 | exact del3 | exact del4 | exact .tail del4 | exact .tail (.tail del4) | exact .tail (.tail (.tail del4))) (.cons (by first | exact del0 | exact del1 | exact del2 | exact del3 | exact del4 | exact .tail del4 | exact .tail (.tail del4) | exact .tail (.tail (.tail del4))) .nil))) (fun a26 c26 => ?_)
    refine jkz ?_
    refine js_nil ?_
    refine jst ?_
    refine jl_nil ?_
    refine jq_block ?_
    refine jq_then ?_
    refine jc_region ?_
    refine jz ?_
    refine jy (y_add_fits rfl rfl (by simp only [fits]; omega)) ?_
    refine jz ?_
    refine jl_nil ?_
    refine jq_round4 (i := i) (j := m) (l := au) (m := cu) (i + 1) (m ++ [⟨q.t, pd.1.1, pd.1.2, pd.2.1.1, pd.2.1.2, pd.2.2.1, pd.2.2.2⟩]) a26 c26 ?_ ?_ ?_
    ·omega
    ·exact ⟨rfl, rfl, rfl, lk_int rfl (by omega), trivial⟩
    ·exact fun _ h => ⟨⟨by omega, by rw [List.length_append, hi.2.1]; rfl, hcn hlt hi.2.2 (by show q.t = _; rw [hxe])⟩, (Hp.snocQ (ti := 104) (to := 58) (tw := 142) (F := [.row a26 (m.length + 1) c26 68 6 (m.flatMap Txq.c ++ Txq.c ⟨q.t, pd.1.1, pd.1.2, pd.2.1.1, pd.2.1.2, pd.2.2.1, pd.2.2.2⟩), .cells b3 [.int .i64 qh, .string qp, .slice a26 (m.length + 1) c26], .cells b2 [.int .i64 0, .string ⟨#[]⟩, .slice none 0 0], .cells b1 (Blq.c ⟨qh, qp, l, some ⟨bb, oo, none⟩, cp⟩)]) ⟨q.t, pd.1.1, pd.1.2, pd.2.1.1, pd.2.1.2, pd.2.2.1, pd.2.2.2⟩ (Hp.partA [_, _, _, _, _, _, _] [.row pd.1.1 (q.t).ins.length pd.1.2 104 4 ((q.t).ins.flatMap Inp.c), .row pd.2.1.1 (q.t).outs.length pd.2.1.2 58 9 ((q.t).outs.flatMap Oup.c), .row pd.2.2.1 (q.t).pf.wins.length pd.2.2.2 142 10 ((q.t).pf.wins.flatMap Wn.c), .row a26 (m.length + 1) c26 68 6 (m.flatMap Txq.c ++ Txq.c ⟨q.t, pd.1.1, pd.1.2, pd.2.1.1, pd.2.1.2, pd.2.2.1, pd.2.2.2⟩), .cells b3 [.int .i64 qh, .string qp, .slice a26 (m.length + 1) c26], .cells b2 [.int .i64 0, .string ⟨#[]⟩, .slice none 0 0], .cells b1 (Blq.c ⟨qh, qp, l, some ⟨bb, oo, none⟩, cp⟩)] h (.cons del1 (.cons del1 (.cons del1 (.cons del0 (.cons del0 (.cons del0 (.cons del0 .nil))))))))).cast (by rw [List.length_append, List.flatMap_append]; simp)⟩
    )
  ·first
   | (exfalso; omega)
   | (
    refine jnt ?_
    refine jc_false rfl ?_
    refine jc_exit ?_
    refine jq_then_exit ?_
    refine jq_then_exit ?_
    refine jq_hit ?_
    refine jq_then ?_
    refine jsr ?_
    refine jz ?_
    refine jst ?_
    refine jnt ?_
    refine jc_ret ?_
    refine jq_res (.inl rfl) rfl (.cell rfl (by first | exact ld_agg (by first | exact mem0 | exact mem1 | exact mem2 | exact mem3 | exact mem4 | exact mem5) (by repeat constructor) | exact ld_agg (by first | exact mem0 | exact mem1 | exact mem2 | exact mem3 | exact mem4 | exact mem5) (by assumption)) .nil) ?_
    exact fun _ hw => ⟨⟨⟨qh, qp, m, au, cu⟩, by show Blk.mk _ _ _ = Blk.mk _ _ _; rw [hi.2.2, List.take_of_length_le (by rw [List.length_map]; omega)]⟩, rfl, (Hp.partA [_, _, _, _] [.row au (m).length cu 68 6 ((m).flatMap Txq.c)] hw (.cons del0 .nil) : Hp w [] (.row au (m).length cu 68 6 ((m).flatMap Txq.c) :: rowsQ 104 58 142 m) _)⟩
    )

theorem rbkright_of (qh : Int) (qp : ByteArray) (l : List Txq) (ad : Option Addr) (cp : Nat) (w : World) (hl : l.length ≤ 1000000) (hE : TxsAt w ad l) (hL : ∀ x ∈ l, Low x.t) (hF : ∀ x ∈ l, x.t.Fit) :
  Calls Tryz.prog 7 #[.agg (Blq.c ⟨qh, qp, l, ad, cp⟩).toArray] w fun e w' => e = .returned (.bool (bkRight (Blq.mk qh qp l ad cp).b)) ∧ Ch [] w w' := by
 refine calls_of (n := 38) (E := [(0, .agg (Blq.c ⟨qh, qp, l, ad, cp⟩).toArray)]) (W := Hp w [] []) Tryz.func7 rfl rfl (Nat.le_of_ble_eq_true rfl) rfl (Hp.nil _ _) ?_
 refine jsr ?_
 refine jl_m rfl (by decide) rfl (m_box rfl rfl) (fun b1 => ?_)
 refine jz ?_
 refine jnt ?_
 refine jc_seq ?_
 refine jsr ?_
 refine jz ?_
 refine jnt ?_
 refine jc_block ?_
 refine jc_loop (fun (i : Nat) => [(1, .pointer (some ⟨b1, 0, none⟩)), (3, .int .i64 (i : Nat))]) (fun (i : Nat) => fun w' => (i ≤ l.length ∧ ∀ x ∈ l.take i, txRight x.t = true) ∧ Hp w [] [.cells b1 (Blq.c ⟨qh, qp, l, ad, cp⟩)] w') (fun (i : Nat) => l.length - i) 0 ?_ ?_ ?_
 ·exact ⟨rfl, rfl, trivial⟩
 ·exact fun _ h => ⟨⟨by omega, fun x hx => by cases hx⟩, h⟩
 ·intro i
  refine jc_and (fun hi => ?_)
  refine jc_seq ?_
  refine jsr ?_
  refine jz ?_
  refine jz ?_
  refine jz ?_
  refine jy (y_len_slice rfl) ?_
  refine jl_as (u := .int .i64 ((l.length : Nat) : Int)) rfl ?_
  refine jy (y_lss rfl rfl) ?_
  refine jl_prop (fun h8 => ?_) (fun h8 => ?_)
  ·first
   | (exfalso; omega)
   | (
    have hlt : i < l.length := by omega
    obtain ⟨bb, oo, ea, hold⟩ := hE.get hlt
    subst ea
    have hqa := hE.each _ (List.getElem_mem hlt)
    have hql := hL _ (List.getElem_mem hlt)
    have hqf := hF _ (List.getElem_mem hlt)
    generalize hxe : l[i]'hlt = q at *
    refine jnt ?_
    refine jc_true rfl ?_
    refine jc_skip ?_
    refine jq_then ?_
    refine jc_seq ?_
    refine jc_block ?_
    refine jsr ?_
    refine jz ?_
    refine jz ?_
    refine jz ?_
    refine jy (y_indexAddr_slice (off := oo + i * 6) rfl rfl (by omega) (by omega) (by omega)) ?_
    refine jy (y_loadAgg_old rfl rfl hold (by simp)) ?_
    refine jpc (goes_func rfl) (fun w1 hw1 => rtxright_any q.t q.a1 q.c1 q.a2 q.c2 q.a3 q.c3 w1 hqf (hqa.ins.keep hw1) (hqa.outs.keep hw1) (hqa.wins.keep hw1) hql.a hql.b hql.d) ?_
    refine jl_bool (fun h16 => ?_) (fun h16 => ?_)
    ·skip
     refine jz ?_
     refine jnt ?_
     refine jc_false rfl ?_
     refine jc_skip ?_
     refine jq_block ?_
     refine jq_then ?_
     refine jc_region ?_
     refine jz ?_
     refine jy (y_add_fits rfl rfl (by simp only [fits]; omega)) ?_
     refine jz ?_
     refine jl_nil ?_
     refine jq_round (i := i) (i + 1) ?_ ?_ ?_
     ·omega
     ·exact ⟨rfl, lk_int rfl (by omega), trivial⟩
     ·exact fun _ h => ⟨⟨by omega, by rw [List.take_succ_eq_append_getElem hlt]; intro x hx; rcases List.mem_append.1 hx with hx | hx; exact hi.2 x hx; rw [List.mem_singleton.1 hx, hxe]; exact h16⟩, h⟩
    ·skip
     refine jz ?_
     refine jnt ?_
     refine jc_true rfl ?_
     refine jsr ?_
     refine jz ?_
     refine jnt ?_
     refine jc_ret ?_
     refine jq_block_ret ?_
     refine jq_then_ret ?_
     refine jq_then_ret ?_
     refine jq_block_ret ?_
     refine jq_then_ret ?_
     refine jq_ret1 rfl rfl ?_
     exact fun _ hw => ⟨congrArg (fun b => Ending.returned (Value.bool b)) (rbk_no hlt hxe h16), hw.ch⟩
    )
  ·first
   | (exfalso; omega)
   | (
    refine jnt ?_
    refine jc_false rfl ?_
    refine jc_exit ?_
    refine jq_then_exit ?_
    refine jq_then_exit ?_
    refine jq_hit ?_
    refine jq_then ?_
    refine jsr ?_
    refine jz ?_
    refine jz ?_
    refine jl_as (u := .int .i64 qh) rfl ?_
    refine jy (y_geq rfl rfl) ?_
    refine jl_prop (fun h20 => ?_) (fun h20 => ?_)
    ·first
     | (exfalso; omega)
     | (
      refine jz ?_
      refine jz ?_
      refine jz ?_
      refine jl_as (u := .int .i64 qh) rfl ?_
      refine jy (y_leq rfl rfl) ?_
      refine jl_prop (fun h24 => ?_) (fun h24 => ?_)
      ·first
       | (exfalso; omega)
       | (
        refine jy (y_pick_true rfl rfl) ?_
        refine jz ?_
        refine jz ?_
        refine jz ?_
        refine jy (y_len_str rfl) ?_
        refine jl_as (u := .int .i64 ((qp.size : Nat) : Int)) rfl ?_
        refine jy (y_eql rfl rfl) ?_
        refine jl_prop (fun h30 => ?_) (fun h30 => ?_)
        ·first
         | (exfalso; omega)
         | (
          refine jy (y_pick_true rfl rfl) ?_
          refine jz ?_
          refine jz ?_
          refine jz ?_
          refine jy (y_len_slice rfl) ?_
          refine jl_as (u := .int .i64 ((l.length : Nat) : Int)) rfl ?_
          refine jy (y_leq rfl rfl) ?_
          refine jy (y_pick_true rfl rfl) ?_
          refine jz ?_
          refine jnt ?_
          refine jc_ret ?_
          refine jq_ret1 rfl rfl ?_
          exact fun _ hw => ⟨congrArg (fun b => Ending.returned (Value.bool b)) (by have hall : ∀ x ∈ l, txRight x.t = true := (by have := hi.2; rwa [List.take_of_length_le (by omega)] at this); first | exact rbk_yes hall ⟨by omega, by omega, by omega, by omega⟩ | exact bkRight_bad (q := (Blq.mk qh qp l ad cp)) (by show ¬ (1 ≤ qh ∧ qh ≤ 4294967295 ∧ qp.size = 16 ∧ l.length ≤ 8); omega) | (by_cases h8 : 1 ≤ qh ∧ qh ≤ 4294967295 ∧ qp.size = 16 ∧ l.length ≤ 8; (rw [← rbk_yes (ad := ad) (cp := cp) hall h8]; simp; omega); (rw [← bkRight_bad (q := (Blq.mk qh qp l ad cp)) h8]; simp; omega))), hw.ch⟩
          )
        ·first
         | (exfalso; omega)
         | (
          refine jy (y_pick_true rfl rfl) ?_
          refine jz ?_
          refine jsk ?_
          refine jsk ?_
          refine jsk ?_
          refine jsk ?_
          refine jy (y_pick_false rfl rfl) ?_
          refine jz ?_
          refine jnt ?_
          refine jc_ret ?_
          refine jq_ret1 rfl rfl ?_
          exact fun _ hw => ⟨congrArg (fun b => Ending.returned (Value.bool b)) (by have hall : ∀ x ∈ l, txRight x.t = true := (by have := hi.2; rwa [List.take_of_length_le (by omega)] at this); first | exact rbk_yes hall ⟨by omega, by omega, by omega, by omega⟩ | exact bkRight_bad (q := (Blq.mk qh qp l ad cp)) (by show ¬ (1 ≤ qh ∧ qh ≤ 4294967295 ∧ qp.size = 16 ∧ l.length ≤ 8); omega) | (by_cases h8 : 1 ≤ qh ∧ qh ≤ 4294967295 ∧ qp.size = 16 ∧ l.length ≤ 8; (rw [← rbk_yes (ad := ad) (cp := cp) hall h8]; simp; omega); (rw [← bkRight_bad (q := (Blq.mk qh qp l ad cp)) h8]; simp; omega))), hw.ch⟩
          )
        )
      ·first
       | (exfalso; omega)
       | (
        refine jy (y_pick_true rfl rfl) ?_
        refine jz ?_
        refine jsk ?_
        refine jsk ?_
        refine jsk ?_
        refine jsk ?_
        refine jy (y_pick_false rfl rfl) ?_
        refine jz ?_
        refine jsk ?_
        refine jsk ?_
        refine jsk ?_
        refine jsk ?_
        refine jy (y_pick_false rfl rfl) ?_
        refine jz ?_
        refine jnt ?_
        refine jc_ret ?_
        refine jq_ret1 rfl rfl ?_
        exact fun _ hw => ⟨congrArg (fun b => Ending.returned (Value.bool b)) (by have hall : ∀ x ∈ l, txRight x.t = true := (by have := hi.2; rwa [List.take_of_length_le (by omega)] at this); first | exact rbk_yes hall ⟨by omega, by omega, by omega, by omega⟩ | exact bkRight_bad (q := (Blq.mk qh qp l ad cp)) (by show ¬ (1 ≤ qh ∧ qh ≤ 4294967295 ∧ qp.size = 16 ∧ l.length ≤ 8); omega) | (by_cases h8 : 1 ≤ qh ∧ qh ≤ 4294967295 ∧ qp.size = 16 ∧ l.length ≤ 8; (rw [← rbk_yes (ad := ad) (cp := cp) hall h8]; simp; omega); (rw [← bkRight_bad (q := (Blq.mk qh qp l ad cp)) h8]; simp; omega))), hw.ch⟩
        )
      )
    ·first
     | (exfalso; omega)
     | (
      refine jz ?_
      refine jsk ?_
      refine jsk ?_
      refine jsk ?_
      refine jy (y_pick_false rfl rfl) ?_
      refine jz ?_
      refine jsk ?_
      refine jsk ?_
      refine jsk ?_
      refine jsk ?_
      refine jy (y_pick_false rfl rfl) ?_
      refine jz ?_
      refine jsk ?_
      refine jsk ?_
      refine jsk ?_
      refine jsk ?_
      refine jy (y_pick_false rfl rfl) ?_
      refine jz ?_
      refine jnt ?_
      refine jc_ret ?_
      refine jq_ret1 rfl rfl ?_
      exact fun _ hw => ⟨congrArg (fun b => Ending.returned (Value.bool b)) (by have hall : ∀ x ∈ l, txRight x.t = true := (by have := hi.2; rwa [List.take_of_length_le (by omega)] at this); first | exact rbk_yes hall ⟨by omega, by omega, by omega, by omega⟩ | exact bkRight_bad (q := (Blq.mk qh qp l ad cp)) (by show ¬ (1 ≤ qh ∧ qh ≤ 4294967295 ∧ qp.size = 16 ∧ l.length ≤ 8); omega) | (by_cases h8 : 1 ≤ qh ∧ qh ≤ 4294967295 ∧ qp.size = 16 ∧ l.length ≤ 8; (rw [← rbk_yes (ad := ad) (cp := cp) hall h8]; simp; omega); (rw [← bkRight_bad (q := (Blq.mk qh qp l ad cp)) h8]; simp; omega))), hw.ch⟩
      )
    )

theorem rbkid_of (qh : Int) (qp : ByteArray) (l : List Txq) (ad : Option Addr) (cp : Nat) (w : World) (hl : l.length ≤ 1000000) (hE : TxsAt w ad l) (hL : ∀ x ∈ l, Low x.t) (hF : ∀ x ∈ l, x.t.Fit) (hh : fits .i64 qh) :
  Calls Tryz.prog 10 #[.agg (Blq.c ⟨qh, qp, l, ad, cp⟩).toArray] w fun e w' => e = .returned (.string (bkID (Blq.mk qh qp l ad cp).b)) ∧ Ch [] w w' := by
 refine calls_of (n := 32) (E := [(0, .agg (Blq.c ⟨qh, qp, l, ad, cp⟩).toArray)]) (W := Hp w [] []) Tryz.func10 rfl rfl (Nat.le_of_ble_eq_true rfl) rfl (Hp.nil _ _) ?_
 refine jsr ?_
 refine jl_m rfl (by decide) rfl (m_box rfl rfl) (fun b1 => ?_)
 refine jz ?_
 refine jnt ?_
 refine jc_seq ?_
 refine jsr ?_
 refine jz ?_
 refine jpc (goes_func rfl) (fun w1 hw1 => rbkright_of qh qp l ad cp w1 hl (hE.keep hw1) hL hF) ?_
 refine jl_bool (fun h6 => ?_) (fun h6 => ?_)
 ·skip
  have hrb : bkRight (Blq.mk qh qp l ad cp).b = true := by assumption
  obtain ⟨r1, r2, r3, r4, r5⟩ := bkRight_iff.1 hrb
  rw [List.length_map] at r4
  have r1 : 1 ≤ qh := r1
  have r2 : qh ≤ 4294967295 := r2
  have r3 : qp.size = 16 := r3
  have r4 : l.length ≤ 8 := r4
  refine jz ?_
  refine jnt ?_
  refine jc_false rfl ?_
  refine jc_skip ?_
  refine jq_then ?_
  refine jsr ?_
  refine jz ?_
  refine jnt ?_
  refine jc_seq ?_
  refine jsr ?_
  refine jz ?_
  refine jnt ?_
  refine jc_block ?_
  refine jc_loop (fun (i : Nat) => [(1, .pointer (some ⟨b1, 0, none⟩)), (3, .string (catB ((l.take i).map fun q : Txq => txID q.t))), (4, .int .i64 (i : Nat))]) (fun (i : Nat) => fun w' => i ≤ l.length ∧ Hp w [] [.cells b1 (Blq.c ⟨qh, qp, l, ad, cp⟩)] w') (fun (i : Nat) => l.length - i) 0 ?_ ?_ ?_
  ·exact ⟨rfl, rfl, rfl, trivial⟩
  ·exact fun _ h => ⟨by omega, h⟩
  ·intro i
   refine jc_and (fun hi => ?_)
   refine jc_seq ?_
   refine jsr ?_
   refine jz ?_
   refine jz ?_
   refine jz ?_
   refine jy (y_len_slice rfl) ?_
   refine jl_as (u := .int .i64 ((l.length : Nat) : Int)) rfl ?_
   refine jy (y_lss rfl rfl) ?_
   refine jl_prop (fun h12 => ?_) (fun h12 => ?_)
   ·first
    | (exfalso; omega)
    | (
     have hlt : i < l.length := by omega
     obtain ⟨bb, oo, ea, hold⟩ := hE.get hlt
     subst ea
     have hqa := hE.each _ (List.getElem_mem hlt)
     have hql := hL _ (List.getElem_mem hlt)
     have hqf := hF _ (List.getElem_mem hlt)
     generalize hxe : l[i]'hlt = q at *
     have hcs := cat_le (f := fun q : Txq => txID q.t) (n := 16) (l := l) (fun q _ => txID_le q.t) i (by omega)
     have hts := txID_le q.t
     have hnx := cat_take (f := fun q : Txq => txID q.t) hlt
     rw [hxe] at hnx
     refine jnt ?_
     refine jc_true rfl ?_
     refine jc_skip ?_
     refine jq_then ?_
     refine jc_seq ?_
     refine jc_block ?_
     refine jc_region ?_
     refine jz ?_
     refine jz ?_
     refine jz ?_
     refine jz ?_
     refine jy (y_indexAddr_slice (off := oo + i * 6) rfl rfl (by omega) (by omega) (by omega)) ?_
     refine jy (y_loadAgg_old rfl rfl hold (by simp)) ?_
     refine jpc (goes_func rfl) (fun w1 hw1 => rtxid_any q.t q.a1 q.c1 q.a2 q.c2 q.a3 q.c3 w1 hqf (hqa.ins.keep hw1) (hqa.outs.keep hw1) (hqa.wins.keep hw1) hql.a hql.b hql.d) ?_
     refine jy (y_concat rfl rfl (by omega)) ?_
     refine jl_as (u := .string (catB ((l.take (i + 1)).map fun q : Txq => txID q.t))) (congrArg Value.string hnx.symm) ?_
     refine jz ?_
     refine jl_nil ?_
     refine jq_block ?_
     refine jq_then ?_
     refine jc_region ?_
     refine jz ?_
     refine jy (y_add_fits rfl rfl (by simp only [fits]; omega)) ?_
     refine jz ?_
     refine jl_nil ?_
     refine jq_round (i := i) (i + 1) ?_ ?_ ?_
     ·omega
     ·exact ⟨rfl, rfl, lk_int rfl (by omega), trivial⟩
     ·exact fun _ h => ⟨by omega, h⟩
     )
   ·first
    | (exfalso; omega)
    | (
     refine jnt ?_
     refine jc_false rfl ?_
     refine jc_exit ?_
     refine jq_then_exit ?_
     refine jq_then_exit ?_
     refine jq_hit ?_
     refine jq_then ?_
     refine jc_seq ?_
     have hcs := cat_le (f := fun q : Txq => txID q.t) (n := 16) (l := l) (fun q _ => txID_le q.t) i (by omega)
     have hie : l.take i = l := List.take_of_length_le (by omega)
     refine jc_tail 7 (by kernel_rfl) (fun _ h => h.drew) ?_
     simp only [List.take_succ_cons, List.take_zero, List.drop_succ_cons, List.drop_zero]
     refine jtz ?_
     refine jtz ?_
     first | refine jty (y_conv_fits rfl (by simp only [fits]; omega)) ?_ | refine jty (y_conv_u64 rfl) ?_
     refine jt_call rfl (by decide) rfl (goes_func rfl) (fun w1 hw1 => pcall hw1 (rput_any qh w1 (by simp only [fits]; omega))) ?_
     refine jtz ?_
     refine jtz ?_
     refine jtz ?_
     refine jt_nil ?_
     refine jl_m rfl (by decide) rfl (m_buildSlice (by decide) (Built.cell rfl rfl rfl (by repeat constructor) (Built.cell rfl rfl rfl (by repeat constructor) (Built.cell rfl rfl rfl (by repeat constructor) Built.nil)))) (fun b30 => ?_)
     refine jpc (goes_func rfl) (fun w1 hw1 => rtag_any strBlock (some ⟨b30, 0, none⟩) 3 [putS qh, qp, catB ((l.take i).map fun q : Txq => txID q.t)] w1 (by decide) (by simp) (all3 (by rw [putS_size]; decide) (by omega) (by omega)) (Strs.of_row (hw1.get mem0))) ?_
     refine jz ?_
     refine jnt ?_
     refine jc_ret ?_
     refine jq_ret1 rfl rfl ?_
     exact fun _ hw => ⟨by unfold bkID; rw [if_pos hrb, hie, show (Blq.mk qh qp l ad cp).b.txs.map txID = l.map fun x : Txq => txID x.t from List.map_map ..], hw.ch⟩
     )
 ·skip
  refine jz ?_
  refine jnt ?_
  refine jc_true rfl ?_
  refine jsr ?_
  refine jz ?_
  refine jnt ?_
  refine jc_ret ?_
  refine jq_then_ret ?_
  refine jq_ret1 rfl rfl ?_
  exact fun _ hw => ⟨by unfold bkID; rw [if_neg (by simp_all)], hw.ch⟩

theorem rbkenc_of (qh : Int) (qp : ByteArray) (l : List Txq) (ad : Option Addr) (cp : Nat) (w : World) (hl : l.length ≤ 1000000) (hE : TxsAt w ad l) (hL : ∀ x ∈ l, Low x.t) (hF : ∀ x ∈ l, x.t.Fit) (hh : fits .i64 qh) :
  Calls Tryz.prog 12 #[.agg (Blq.c ⟨qh, qp, l, ad, cp⟩).toArray] w fun e w' => e = .returned (.string (bkEnc (Blq.mk qh qp l ad cp).b)) ∧ Ch [] w w' := by
 refine calls_of (n := 43) (E := [(0, .agg (Blq.c ⟨qh, qp, l, ad, cp⟩).toArray)]) (W := Hp w [] []) Tryz.func12 rfl rfl (Nat.le_of_ble_eq_true rfl) rfl (Hp.nil _ _) ?_
 refine jsr ?_
 refine jl_m rfl (by decide) rfl (m_box rfl rfl) (fun b1 => ?_)
 refine jz ?_
 refine jnt ?_
 refine jc_seq ?_
 refine jsr ?_
 refine jz ?_
 refine jpc (goes_func rfl) (fun w1 hw1 => rbkright_of qh qp l ad cp w1 hl (hE.keep hw1) hL hF) ?_
 refine jl_bool (fun h6 => ?_) (fun h6 => ?_)
 ·skip
  have hrb : bkRight (Blq.mk qh qp l ad cp).b = true := by assumption
  obtain ⟨r1, r2, r3, r4, r5⟩ := bkRight_iff.1 hrb
  rw [List.length_map] at r4
  have r1 : 1 ≤ qh := r1
  have r2 : qh ≤ 4294967295 := r2
  have r3 : qp.size = 16 := r3
  have r4 : l.length ≤ 8 := r4
  refine jz ?_
  refine jnt ?_
  refine jc_false rfl ?_
  refine jc_skip ?_
  refine jq_then ?_
  refine jsr ?_
  refine jy (y_build Built.nil) ?_
  refine jl_m rfl (by decide) rfl (m_box rfl rfl) (fun b9 => ?_)
  refine jz ?_
  refine jnt ?_
  refine jsr ?_
  refine jz ?_
  refine juc (goes_func rfl) (fun w1 hw1 => rwbyte_any b9 (w0) (66) (by simp only [fits]; decide) w1 (wz) hw1) ?_
  refine jnt ?_
  refine jsr ?_
  refine jz ?_
  refine jz ?_
  refine jz ?_
  first | refine jy (y_conv_fits rfl (by simp only [fits]; omega)) ?_ | refine jy (y_conv_u64 rfl) ?_
  refine juc (goes_func rfl) (fun w1 hw1 => rwnum_any b9 (wByte (w0) (66)) (qh) (by simp only [fits]; omega) w1 (wz) hw1) ?_
  refine jnt ?_
  refine jsr ?_
  refine jz ?_
  refine jz ?_
  refine jz ?_
  refine juc (goes_func rfl) (fun w1 hw1 => rwhash_any b9 (wNum (wByte (w0) (66)) (qh)) (qp) (by omega) w1 (wz) hw1) ?_
  refine jnt ?_
  refine jsr ?_
  refine jz ?_
  refine jz ?_
  refine jz ?_
  refine jy (y_len_slice rfl) ?_
  refine jl_as (u := .int .i64 ((l.length : Nat) : Int)) rfl ?_
  refine juc (goes_func rfl) (fun w1 hw1 => rwbyte_any b9 (wHash (wNum (wByte (w0) (66)) (qh)) (qp)) (((l.length : Nat) : Int)) (by simp only [fits]; omega) w1 (wz) hw1) ?_
  refine jnt ?_
  refine jc_seq ?_
  refine jsr ?_
  refine jz ?_
  refine jnt ?_
  refine jc_block ?_
  refine jc_loop (fun (i : Nat) => [(1, .pointer (some ⟨b1, 0, none⟩)), (3, .pointer (some ⟨b9, 0, none⟩)), (4, .int .i64 (i : Nat))]) (fun (i : Nat) => fun w' => i ≤ l.length ∧ Hp w [] [.cells b9 [.string (((l.take i).foldl bkF (bkHead qh qp l.length))).1, .int .i64 (((l.take i).foldl bkF (bkHead qh qp l.length))).2], .cells b1 (Blq.c ⟨qh, qp, l, ad, cp⟩)] w') (fun (i : Nat) => l.length - i) 0 ?_ ?_ ?_
  ·exact ⟨rfl, rfl, rfl, trivial⟩
  ·exact fun _ h => ⟨by omega, h⟩
  ·intro i
   refine jc_and (fun hi => ?_)
   refine jc_seq ?_
   refine jsr ?_
   refine jz ?_
   refine jz ?_
   refine jz ?_
   refine jy (y_len_slice rfl) ?_
   refine jl_as (u := .int .i64 ((l.length : Nat) : Int)) rfl ?_
   refine jy (y_lss rfl rfl) ?_
   refine jl_prop (fun h30 => ?_) (fun h30 => ?_)
   ·first
    | (exfalso; omega)
    | (
     have hlt : i < l.length := by omega
     obtain ⟨bb, oo, ea, hold⟩ := hE.get hlt
     subst ea
     have hqa := hE.each _ (List.getElem_mem hlt)
     have hql := hL _ (List.getElem_mem hlt)
     have hqf := hF _ (List.getElem_mem hlt)
     generalize hxe : l[i]'hlt = q at *
     have hzs := bkF_size qh qp l.length l i r4
     have hxs := txEnc_size q.t
     refine jnt ?_
     refine jc_true rfl ?_
     refine jc_skip ?_
     refine jq_then ?_
     refine jc_seq ?_
     refine jc_block ?_
     refine jc_region ?_
     refine jz ?_
     refine jz ?_
     refine jz ?_
     refine jz ?_
     refine jy (y_indexAddr_slice (off := oo + i * 6) rfl rfl (by omega) (by omega) (by omega)) ?_
     refine jy (y_loadAgg_old rfl rfl hold (by simp)) ?_
     refine jpc (goes_func rfl) (fun w1 hw1 => rtxenc_any q.t q.a1 q.c1 q.a2 q.c2 q.a3 q.c3 w1 hqf (hqa.ins.keep hw1) (hqa.outs.keep hw1) (hqa.wins.keep hw1) hql.a hql.b hql.d) ?_
     refine juc (goes_func rfl) (fun w1 hw1 => rwblob_any b9 (((l.take i).foldl bkF (bkHead qh qp l.length))) (txEnc q.t) (by omega) w1 (by omega) hw1) ?_
     refine jl_nil ?_
     refine jq_block ?_
     refine jq_then ?_
     refine jc_region ?_
     refine jz ?_
     refine jy (y_add_fits rfl rfl (by simp only [fits]; omega)) ?_
     refine jz ?_
     refine jl_nil ?_
     refine jq_round (i := i) (i + 1) ?_ ?_ ?_
     ·omega
     ·exact ⟨rfl, rfl, lk_int rfl (by omega), trivial⟩
     ·exact fun _ h => ⟨by omega, h.cast (by rw [fold_take bkF hlt, hxe]; rfl)⟩
     )
   ·first
    | (exfalso; omega)
    | (
     refine jnt ?_
     refine jc_false rfl ?_
     refine jc_exit ?_
     refine jq_then_exit ?_
     refine jq_then_exit ?_
     refine jq_hit ?_
     refine jq_then ?_
     refine jsr ?_
     refine jz ?_
     refine jpc (goes_func rfl) (fun w1 hw1 => rwtext_any b9 (((l.take i).foldl bkF (bkHead qh qp l.length))) w1 (CellAt.of_cells (hw1.get (A := .cells b9 [.string (((l.take i).foldl bkF (bkHead qh qp l.length))).1, .int .i64 (((l.take i).foldl bkF (bkHead qh qp l.length))).2]) mem0) rfl) (CellAt.of_cells (hw1.get (A := .cells b9 [.string (((l.take i).foldl bkF (bkHead qh qp l.length))).1, .int .i64 (((l.take i).foldl bkF (bkHead qh qp l.length))).2]) mem0) rfl)) ?_
     refine jz ?_
     refine jnt ?_
     refine jc_ret ?_
     refine jq_ret1 rfl rfl ?_
     exact fun _ hw => ⟨by unfold bkEnc; rw [if_pos hrb, bkPut_eq, List.take_of_length_le (by omega)], hw.ch⟩
     )
 ·skip
  refine jz ?_
  refine jnt ?_
  refine jc_true rfl ?_
  refine jsr ?_
  refine jz ?_
  refine jnt ?_
  refine jc_ret ?_
  refine jq_then_ret ?_
  refine jq_ret1 rfl rfl ?_
  exact fun _ hw => ⟨by unfold bkEnc; rw [if_neg (by simp_all)], hw.ch⟩

theorem rbksame_of (qh : Int) (qp : ByteArray) (l : List Txq) (ad : Option Addr) (cp : Nat) (rh : Int) (rp : ByteArray) (m : List Txq) (aq : Option Addr) (dq : Nat) (w : World) (hl : l.length ≤ 1000000) (hm : m.length ≤ 1000000) (hE : TxsAt w ad l) (hQ : TxsAt w aq m) (hL : ∀ x ∈ l, Low x.t) (hM : ∀ x ∈ m, Low x.t) :
  Calls Tryz.prog 14 #[.agg (Blq.c ⟨qh, qp, l, ad, cp⟩).toArray, .agg (Blq.c ⟨rh, rp, m, aq, dq⟩).toArray] w fun e w' => e = .returned (.bool (decide ((Blq.mk qh qp l ad cp).b = (Blq.mk rh rp m aq dq).b))) ∧ Ch [] w w' := by
 refine calls_of (n := 44) (E := [(0, .agg (Blq.c ⟨qh, qp, l, ad, cp⟩).toArray), (1, .agg (Blq.c ⟨rh, rp, m, aq, dq⟩).toArray)]) (W := Hp w [] []) Tryz.func14 rfl rfl (Nat.le_of_ble_eq_true rfl) rfl (Hp.nil _ _) ?_
 refine jsr ?_
 refine jl_m rfl (by decide) rfl (m_box rfl rfl) (fun b2 => ?_)
 refine jl_m rfl (by decide) rfl (m_box rfl rfl) (fun b3 => ?_)
 refine jz ?_
 refine jnt ?_
 refine jc_seq ?_
 refine jsr ?_
 refine jz ?_
 refine jz ?_
 refine jy (y_len_slice rfl) ?_
 refine jl_as (u := .int .i64 ((l.length : Nat) : Int)) rfl ?_
 refine jz ?_
 refine jz ?_
 refine jy (y_len_slice rfl) ?_
 refine jl_as (u := .int .i64 ((m.length : Nat) : Int)) rfl ?_
 refine jy (y_neq rfl rfl) ?_
 refine jl_prop (fun h12 => ?_) (fun h12 => ?_)
 ·first
  | (exfalso; omega)
  | (
   refine jnt ?_
   refine jc_true rfl ?_
   refine jsr ?_
   refine jz ?_
   refine jnt ?_
   refine jc_ret ?_
   refine jq_then_ret ?_
   refine jq_ret1 rfl rfl ?_
   exact fun _ hw => ⟨congrArg (fun b => Ending.returned (Value.bool b)) (by symm; rw [decide_eq_false_iff_not]; intro e; have := congrArg (fun b : Blk => b.txs.length) e; simp only [List.length_map] at this; omega), hw.ch⟩
   )
 ·first
  | (exfalso; omega)
  | (
   refine jnt ?_
   refine jc_false rfl ?_
   refine jc_skip ?_
   refine jq_then ?_
   refine jc_seq ?_
   refine jsr ?_
   refine jz ?_
   refine jnt ?_
   refine jc_block ?_
   refine jc_loop (fun (i : Nat) => [(2, .pointer (some ⟨b2, 0, none⟩)), (3, .pointer (some ⟨b3, 0, none⟩)), (5, .int .i64 (i : Nat))]) (fun (i : Nat) => fun w' => (i ≤ l.length ∧ (txsQ l).take i = (txsQ m).take i) ∧ Hp w [] [.cells b3 (Blq.c ⟨rh, rp, m, aq, dq⟩), .cells b2 (Blq.c ⟨qh, qp, l, ad, cp⟩)] w') (fun (i : Nat) => l.length - i) 0 ?_ ?_ ?_
   ·exact ⟨rfl, rfl, rfl, trivial⟩
   ·exact fun _ h => ⟨⟨by omega, rfl⟩, h⟩
   ·intro i
    refine jc_and (fun hi => ?_)
    refine jc_seq ?_
    refine jsr ?_
    refine jz ?_
    refine jz ?_
    refine jz ?_
    refine jy (y_len_slice rfl) ?_
    refine jl_as (u := .int .i64 ((l.length : Nat) : Int)) rfl ?_
    refine jy (y_lss rfl rfl) ?_
    refine jl_prop (fun h17 => ?_) (fun h17 => ?_)
    ·first
     | (exfalso; omega)
     | (
      have hlt : i < l.length := by omega
      have hlq : i < m.length := by omega
      obtain ⟨bb, oo, ea, hold⟩ := hE.get hlt
      obtain ⟨bq, oq, eq, holq⟩ := hQ.get hlq
      subst ea
      subst eq
      have hqa := hE.each _ (List.getElem_mem hlt)
      have hql := hL _ (List.getElem_mem hlt)
      have hra := hQ.each _ (List.getElem_mem hlq)
      have hrl := hM _ (List.getElem_mem hlq)
      generalize hxe : l[i]'hlt = x at *
      generalize hye : m[i]'hlq = y at *
      refine jnt ?_
      refine jc_true rfl ?_
      refine jc_skip ?_
      refine jq_then ?_
      refine jc_seq ?_
      refine jc_block ?_
      refine jc_seq ?_
      refine jc_draw (by kernel_rfl) (fun _ h => h.drew) ?_
      refine juz ?_
      refine juz ?_
      refine ju_as (u := .slice (some ⟨bb, oo, none⟩) l.length cp) rfl ?_
      refine juz ?_
      refine juy (y_indexAddr_slice (off := oo + i * 6) rfl rfl (by omega) (by omega) (by omega)) ?_
      refine juy (y_loadAgg_old rfl rfl hold (by simp)) ?_
      refine juz ?_
      refine juz ?_
      refine ju_as (u := .slice (some ⟨bq, oq, none⟩) m.length dq) rfl ?_
      refine juz ?_
      refine juy (y_indexAddr_slice (off := oq + i * 6) rfl rfl (by omega) (by omega) (by omega)) ?_
      refine juy (y_loadAgg_old rfl rfl holq (by simp)) ?_
      refine ju_call rfl (by decide) rfl (goes_func rfl) (fun w1 hw1 => pcall hw1 (rcosame_any x.t x.a1 x.c1 x.a2 x.c2 x.a3 x.c3 y.t y.a1 y.c1 y.a2 y.c2 y.a3 y.c3 w1 (hqa.ins.keep hw1) (hqa.outs.keep hw1) (hqa.wins.keep hw1) (hra.ins.keep hw1) (hra.outs.keep hw1) (hra.wins.keep hw1) hql.a hql.b hql.d hrl.a hrl.b hrl.d)) ?_
      refine ju_bool (fun h30 => ?_) (fun h30 => ?_)
      ·skip
       refine juz ?_
       refine ju_nil ?_
       refine jq_then ?_
       refine jc_false rfl ?_
       refine jc_skip ?_
       refine jq_block ?_
       refine jq_then ?_
       refine jc_region ?_
       refine jz ?_
       refine jy (y_add_fits rfl rfl (by simp only [fits]; omega)) ?_
       refine jz ?_
       refine jl_nil ?_
       refine jq_round (i := i) (i + 1) ?_ ?_ ?_
       ·omega
       ·exact ⟨rfl, rfl, lk_int rfl (by omega), trivial⟩
       ·exact fun _ h => ⟨⟨by omega, eqQ_next hlt hlq hi.2 (by rw [hxe, hye]; first | assumption | simp_all)⟩, h⟩
      ·skip
       refine juz ?_
       refine ju_nil ?_
       refine jq_then ?_
       refine jc_true rfl ?_
       refine jsr ?_
       refine jz ?_
       refine jnt ?_
       refine jc_ret ?_
       refine jq_block_ret ?_
       refine jq_then_ret ?_
       refine jq_then_ret ?_
       refine jq_block_ret ?_
       refine jq_then_ret ?_
       refine jq_ret1 rfl rfl ?_
       exact fun _ hw => ⟨congrArg (fun b => Ending.returned (Value.bool b)) (by symm; rw [decide_eq_false_iff_not]; intro e; exact eqQ_not hlt hlq (congrArg Blk.txs e) (by rw [hxe, hye]; first | assumption | simp_all)), hw.ch⟩
      )
    ·first
     | (exfalso; omega)
     | (
      refine jnt ?_
      refine jc_false rfl ?_
      refine jc_exit ?_
      refine jq_then_exit ?_
      refine jq_then_exit ?_
      refine jq_hit ?_
      refine jq_then ?_
      refine jsr ?_
      refine jz ?_
      refine jz ?_
      refine jz ?_
      refine jz ?_
      refine jy (y_eql rfl rfl) ?_
      refine jl_prop (fun h36 => ?_) (fun h36 => ?_)
      ·first
       | (exfalso; omega)
       | (
        refine jz ?_
        refine jz ?_
        refine jz ?_
        refine jz ?_
        refine jz ?_
        refine jy (y_seql rfl rfl) ?_
        refine jy (y_pick_true rfl rfl) ?_
        refine jz ?_
        refine jnt ?_
        refine jc_ret ?_
        refine jq_ret1 rfl rfl ?_
        exact fun _ hw => ⟨congrArg (fun b => Ending.returned (Value.bool b)) (by have htx : txsQ l = txsQ m := (by have := hi.2; rwa [List.take_of_length_le (by rw [List.length_map]; omega), List.take_of_length_le (by rw [List.length_map]; omega)] at this); first | exact rs_one (q := (Blq.mk qh qp l ad cp)) (r := Blq.mk rh rp m aq dq) (by assumption) htx | exact bkSame_no (q := (Blq.mk qh qp l ad cp)) (r := Blq.mk rh rp m aq dq) (fun e => absurd e.1 (by assumption))), hw.ch⟩
        )
      ·first
       | (exfalso; omega)
       | (
        refine jz ?_
        refine jsk ?_
        refine jsk ?_
        refine jsk ?_
        refine jsk ?_
        refine jsk ?_
        refine jy (y_pick_false rfl rfl) ?_
        refine jz ?_
        refine jnt ?_
        refine jc_ret ?_
        refine jq_ret1 rfl rfl ?_
        exact fun _ hw => ⟨congrArg (fun b => Ending.returned (Value.bool b)) (by have htx : txsQ l = txsQ m := (by have := hi.2; rwa [List.take_of_length_le (by rw [List.length_map]; omega), List.take_of_length_le (by rw [List.length_map]; omega)] at this); first | exact rs_one (q := (Blq.mk qh qp l ad cp)) (r := Blq.mk rh rp m aq dq) (by assumption) htx | exact bkSame_no (q := (Blq.mk qh qp l ad cp)) (r := Blq.mk rh rp m aq dq) (fun e => absurd e.1 (by assumption))), hw.ch⟩
        )
      )
   )

theorem rbfirst_any (ad : Option Addr) (l : List Oup) (c : Nat) (w : World) (hl : l.length ≤ 100) (hE : ElAt w ad 9 (l.map Oup.c)) (hF : ∀ o ∈ l, o.Fit) (hK : ∀ o ∈ l, o.key.size ≤ 1000) :
  Calls Tryz.prog 16 #[.slice ad l.length c] w fun e w' => e = .returned (.string (bkFirst l)) ∧ Ch [] w w' := by
 refine calls_of (n := 28) (E := [(0, .slice ad l.length c)]) (W := Hp w [] []) Tryz.func16 rfl rfl (Nat.le_of_ble_eq_true rfl) rfl (Hp.nil _ _) ?_
 refine jsr ?_
 refine jz ?_
 refine jnt ?_
 refine jsr ?_
 refine jz ?_
 refine jnt ?_
 refine jc_seq ?_
 refine jsr ?_
 refine jz ?_
 refine jnt ?_
 refine jc_block ?_
 refine jc_loop (fun (i : Nat) => [(0, .slice ad l.length c), (3, .string (catB ((l.take i).map firstS))), (4, .int .i64 (i : Nat))]) (fun (i : Nat) => fun w' => i ≤ l.length ∧ Hp w [] [] w') (fun (i : Nat) => l.length - i) 0 ?_ ?_ ?_
 ·exact ⟨rfl, rfl, rfl, trivial⟩
 ·exact fun _ h => ⟨by omega, h⟩
 ·intro i
  refine jc_and (fun hi => ?_)
  refine jc_seq ?_
  refine jsr ?_
  refine jz ?_
  refine jz ?_
  refine jy (y_len_slice rfl) ?_
  refine jy (y_lss rfl rfl) ?_
  refine jl_prop (fun h8 => ?_) (fun h8 => ?_)
  ·first
   | (exfalso; omega)
   | (
    have hlt : i < l.length := by omega
    obtain ⟨bb, oo, ea, hold⟩ := hE.get hlt
    subst ea
    have hqf := hF _ (List.getElem_mem hlt)
    have hqk := hK _ (List.getElem_mem hlt)
    have hcs := cat_le (f := firstS) (n := 1008) (l := l) (fun q hq => by unfold firstS; rw [ByteArray.size_append, putS_size]; have := hK q hq; omega) i (by omega)
    have hnx := cat_take (f := firstS) hlt
    generalize hxe : l[i]'hlt = q at *
    have hts : (firstS q).size ≤ 1008 := by unfold firstS; rw [ByteArray.size_append, putS_size]; omega
    refine jnt ?_
    refine jc_true rfl ?_
    refine jc_skip ?_
    refine jq_then ?_
    refine jc_seq ?_
    refine jc_block ?_
    refine jc_draw (by kernel_rfl) (fun _ h => h.drew) ?_
    refine juz ?_
    refine juz ?_
    refine juz ?_
    refine juy (y_indexAddr_slice (off := oo + i * 9) rfl rfl (by omega) (by omega) (by omega)) ?_
    refine juz ?_
    refine juy (y_load_old rfl (hold 1 _ rfl) (by simp)) ?_
    refine ju_call rfl (by decide) rfl (goes_func rfl) (fun w1 hw1 => pcall hw1 (rput_any q.amount w1 hqf.amount)) ?_
    refine juz ?_
    refine juz ?_
    refine juy (y_indexAddr_slice (off := oo + i * 9) rfl rfl (by omega) (by omega) (by omega)) ?_
    refine juz ?_
    refine juy (y_load_old rfl (hold 2 _ rfl) (by simp)) ?_
    refine juy (y_concat rfl rfl (by first | omega | (rw [putS_size]; omega) | (rw [ByteArray.size_append, putS_size]; omega))) ?_
    refine ju_as (u := .string (firstS q)) rfl ?_
    refine juy (y_concat rfl rfl (by first | omega | (rw [putS_size]; omega) | (rw [ByteArray.size_append, putS_size]; omega))) ?_
    refine ju_as (u := .string (catB ((l.take (i + 1)).map firstS))) (congrArg Value.string hnx.symm) ?_
    refine juz ?_
    refine ju_nil ?_
    refine jq_block ?_
    refine jq_then ?_
    refine jc_region ?_
    refine jz ?_
    refine jy (y_add_fits rfl rfl (by simp only [fits]; omega)) ?_
    refine jz ?_
    refine jl_nil ?_
    refine jq_round (i := i) (i + 1) ?_ ?_ ?_
    ·omega
    ·exact ⟨rfl, rfl, lk_int rfl (by omega), trivial⟩
    ·exact fun _ h => ⟨by omega, h.part .nil⟩
    )
  ·first
   | (exfalso; omega)
   | (
    refine jnt ?_
    refine jc_false rfl ?_
    refine jc_exit ?_
    refine jq_then_exit ?_
    refine jq_then_exit ?_
    refine jq_hit ?_
    refine jq_then ?_
    refine jc_seq ?_
    have hcs := cat_le (f := firstS) (n := 1008) (l := l) (fun q hq => by unfold firstS; rw [ByteArray.size_append, putS_size]; have := hK q hq; omega) i (by omega)
    have hie : l.take i = l := List.take_of_length_le (by omega)
    refine jc_region ?_
    refine jz ?_
    refine jl_m rfl (by decide) rfl (m_buildSlice (by decide) (Built.cell rfl rfl rfl (by repeat constructor) Built.nil)) (fun b26 => ?_)
    refine jpc (goes_func rfl) (fun w1 hw1 => rtag_any strFirst (some ⟨b26, 0, none⟩) 1 [catB ((l.take i).map firstS)] w1 (by decide) (by simp) (all1 (by omega)) (Strs.of_row (hw1.get mem0))) ?_
    refine jz ?_
    refine jnt ?_
    refine jc_ret ?_
    refine jq_ret1 rfl rfl ?_
    exact fun _ hw => ⟨by rw [hie]; rfl, hw.ch⟩
    )

theorem outs_any (ad : Option Addr) (l : List Oup) (c : Nat) (w : World) (hE : ElAt w ad 9 (l.map Oup.c)) :
  Calls Tryz.prog 5 #[.slice ad l.length c] w fun e w' => ∃ pr : (Option Addr × Nat) × (Option Addr × Nat), e = .returned (.tuple #[.slice pr.1.1 ((l.take 6).map ctOu).length pr.1.2, .slice pr.2.1 ((l.take 6).map ctOu).length pr.2.2]) ∧ Hp w [] [.row pr.2.1 ((l.take 6).map ctOu).length pr.2.2 58 9 (((l.take 6).map ctOu).flatMap Oup.c), .row pr.1.1 ((l.take 6).map ctOu).length pr.1.2 56 9 (((l.take 6).map ctOu).flatMap Oup.c)] w' := by
 refine calls_of (n := 37) (E := [(0, .slice ad l.length c)]) (W := Hp w [] []) Tryz.func5 rfl rfl (Nat.le_of_ble_eq_true rfl) rfl (Hp.nil _ _) ?_
 refine jsr ?_
 refine jz ?_
 refine jz ?_
 refine jnt ?_
 refine jsr ?_
 refine jl_m rfl (by decide) rfl (m_buildSlice (size := 9) (by decide) Built.nil) (fun b7 => ?_)
 refine jl_m rfl (by decide) rfl (m_buildSlice (size := 9) (by decide) Built.nil) (fun b8 => ?_)
 refine jz ?_
 refine jz ?_
 refine jnt ?_
 refine jc_seq ?_
 refine jsr ?_
 refine jz ?_
 refine jnt ?_
 refine jc_block ?_
 refine jc_loop3 (fun (i : Nat) (p : Option Addr × Nat) (r : Option Addr × Nat) => [(0, .slice ad l.length c), (4, .slice p.1 i p.2), (5, .slice r.1 i r.2), (6, .int .i64 (i : Nat))]) (fun (i : Nat) (p : Option Addr × Nat) (r : Option Addr × Nat) => fun w' => (i ≤ l.length ∧ i ≤ 6) ∧ Hp w [] [.row r.1 i r.2 58 9 (((l.take i).map ctOu).flatMap Oup.c), .row p.1 i p.2 56 9 (((l.take i).map ctOu).flatMap Oup.c)] w') (fun (i : Nat) (p : Option Addr × Nat) (r : Option Addr × Nat) => 6 - i) 0 (some ⟨b7, 0, none⟩, 0) (some ⟨b8, 0, none⟩, 0) ?_ ?_ ?_
 ·exact ⟨rfl, rfl, rfl, rfl, trivial⟩
 ·exact fun _ h => ⟨by omega, h⟩
 ·intro i p r
  refine jc_and (fun hi => ?_)
  refine jc_seq ?_
  refine jsr ?_
  refine jz ?_
  refine jz ?_
  refine jy (y_len_slice rfl) ?_
  refine jy (y_lss rfl rfl) ?_
  refine jl_prop (fun h12 => ?_) (fun h12 => ?_)
  ·first
   | (exfalso; omega)
   | (
    have hlt : i < l.length := by omega
    refine jz ?_
    refine jz ?_
    refine jy (y_lss rfl rfl) ?_
    refine jl_prop (fun h15 => ?_) (fun h15 => ?_)
    ·first
     | (exfalso; omega)
     | (
      obtain ⟨bb, oo, ea, hold⟩ := hE.get hlt
      subst ea
      have hnx := take_flat (f := ctOu) (c := Oup.c) hlt
      generalize hxe : l[i]'hlt = x at *
      have hsn := @snoc_hold ((l.take i).map ctOu) (ctOu x) i (by rw [List.length_map, List.length_take]; omega)
      refine jy (y_pick_true rfl rfl) ?_
      refine jnt ?_
      refine jc_true rfl ?_
      refine jc_skip ?_
      refine jq_then ?_
      refine jc_seq ?_
      refine jc_block ?_
      refine jsr ?_
      refine jz ?_
      refine jz ?_
      refine jz ?_
      refine jy (y_indexAddr_slice (off := oo + i * 9) rfl rfl (by omega) (by omega) (by omega)) ?_
      refine jy (y_loadAgg_old rfl rfl hold (by simp)) ?_
      refine jpc (goes_func rfl) (fun w1 hw1 => cutou_any x w1) ?_
      refine jl_m rfl (by decide) rfl (m_buildSlice (size := 9) (by decide) (Built.agg rfl rfl rfl (by repeat constructor) Built.nil)) (fun b25 => ?_)
      refine jl_m2 rfl (by decide) rfl (m_append rfl rfl (by first | exact del0 | exact del1 | exact del2 | exact del3 | exact del4) (by first | exact del0 | exact del1 | exact del2 | exact del3 | exact del4) rfl (by omega) (by omega)) (fun a26 c26 => ?_)
      refine jz ?_
      refine jnt ?_
      refine jc_pure (p := ∃ b, a26 = some ⟨b, 0, none⟩) (fun w h => row_some (h.get mem0) (by omega)) (fun hb => ?_)
      obtain ⟨b9, rfl⟩ := hb
      refine jc_region ?_
      refine jz ?_
      refine jz ?_
      refine jz ?_
      refine jy (y_indexAddr_slice (off := i * 9) rfl rfl (by omega) (by omega) (by omega)) ?_
      refine jy (y_loadAgg_row rfl mem0 rfl hsn) ?_
      refine jpc (goes_func rfl) (fun w1 hw1 => refou_any (ctOu x) w1) ?_
      refine jl_m rfl (by decide) rfl (m_buildSlice (size := 9) (by decide) (Built.agg rfl rfl rfl (by repeat constructor) Built.nil)) (fun b33 => ?_)
      refine jl_m2 rfl (by decide) rfl (m_append rfl rfl (by first | exact del0 | exact del1 | exact del2 | exact del3 | exact del4) (by first | exact del0 | exact del1 | exact del2 | exact del3 | exact del4) rfl (by omega) (by omega)) (fun a34 c34 => ?_)
      refine jz ?_
      refine jl_nil ?_
      refine jq_block ?_
      refine jq_then ?_
      refine jc_region ?_
      refine jz ?_
      refine jy (y_add_fits rfl rfl (by simp only [fits]; omega)) ?_
      refine jz ?_
      refine jl_nil ?_
      refine jq_round3 (i := i) (j := p) (l := r) (i + 1) (some ⟨b9, 0, none⟩, c26) (a34, c34) ?_ ?_ ?_
      ·omega
      ·exact ⟨rfl, rfl, rfl, lk_int rfl (by omega), trivial⟩
      ·exact fun _ h => ⟨by omega, h.cast (by rw [hnx]; rfl)⟩
      )
    ·first
     | (exfalso; omega)
     | (
      refine jy (y_pick_true rfl rfl) ?_
      refine jnt ?_
      refine jc_false rfl ?_
      refine jc_exit ?_
      refine jq_then_exit ?_
      refine jq_then_exit ?_
      refine jq_hit ?_
      refine jq_then ?_
      refine jsr ?_
      refine jz ?_
      refine jz ?_
      refine jz ?_
      refine jz ?_
      refine jnt ?_
      refine jc_ret ?_
      refine jq_ret2 rfl rfl rfl ?_
      exact fun _ hw => (by have e1 := take_top (n := 6) hi (by omega); have e2 : ((l.take 6).map ctOu).length = i := (by rw [← e1, List.length_map, List.length_take]; omega); exact ⟨(p, r), by rw [e2], by rw [e2, ← e1]; exact hw⟩)
      )
    )
  ·first
   | (exfalso; omega)
   | (
    refine jz ?_
    refine jsk ?_
    refine jsk ?_
    refine jy (y_pick_false rfl rfl) ?_
    refine jnt ?_
    refine jc_false rfl ?_
    refine jc_exit ?_
    refine jq_then_exit ?_
    refine jq_then_exit ?_
    refine jq_hit ?_
    refine jq_then ?_
    refine jsr ?_
    refine jz ?_
    refine jz ?_
    refine jz ?_
    refine jz ?_
    refine jnt ?_
    refine jc_ret ?_
    refine jq_ret2 rfl rfl rfl ?_
    exact fun _ hw => (by have e1 := take_top (n := 6) hi (by omega); have e2 : ((l.take 6).map ctOu).length = i := (by rw [← e1, List.length_map, List.length_take]; omega); exact ⟨(p, r), by rw [e2], by rw [e2, ← e1]; exact hw⟩)
    )

theorem refbk_any (q : Blq) (w : World) (hl : q.l.length ≤ 1000000) (hE : TxsAt w q.ad q.l) (hS : ∀ x ∈ q.l, x.t.ins.length ≤ 1000000 ∧ x.t.outs.length ≤ 1000000 ∧ x.t.pf.wins.length ≤ 1000000) : Calls Tryz.prog 8 #[.agg (Blq.c q).toArray] w fun e w' => ∃ r : {r : Blq // r.b = q.b}, e = .returned (.agg (Blq.c r.1).toArray) ∧ Hp w [] (r.1.rows 68 104 58 142) w' := refbk_of q.height q.prev q.l q.ad q.cp w hl hE hS
theorem rlow {q r : Blq} (h : r.b = q.b) (hL : ∀ x ∈ q.l, Low x.t) (hF : ∀ x ∈ q.l, x.t.Fit) (hl : q.l.length ≤ 1000000) (hh : fits .i64 q.height) : (∀ x ∈ r.l, Low x.t) ∧ (∀ x ∈ r.l, x.t.Fit) ∧ r.l.length ≤ 1000000 ∧ fits .i64 r.height := by
  have ht : txsQ r.l = txsQ q.l := congrArg Blk.txs h
  have hx : ∀ x ∈ r.l, ∃ y ∈ q.l, y.t = x.t := fun x hx => by
    have h2 : x.t ∈ txsQ q.l := by rw [← ht]; exact List.mem_map.2 ⟨x, hx, rfl⟩
    exact List.mem_map.1 h2
  refine ⟨fun x hm => ?_, fun x hm => ?_, ?_, ?_⟩
  · obtain ⟨y, hy, e⟩ := hx x hm; exact e ▸ hL y hy
  · obtain ⟨y, hy, e⟩ := hx x hm; exact e ▸ hF y hy
  · have := congrArg List.length ht; rw [List.length_map, List.length_map] at this; omega
  · have e : r.height = q.height := congrArg Blk.height h
    rw [e]; exact hh
theorem rbkright_any {q r : Blq} {w : World} (h : r.b = q.b) (hk : ∀ A ∈ r.rows 68 104 58 142, A.ok w) (hL : ∀ x ∈ q.l, Low x.t) (hF : ∀ x ∈ q.l, x.t.Fit) (hl : q.l.length ≤ 1000000) (hh : fits .i64 q.height) : Calls Tryz.prog 7 #[.agg (Blq.c r).toArray] w fun e w' => e = .returned (.bool (bkRight q.b)) ∧ Ch [] w w' := by
  have z := rlow h hL hF hl hh
  have y := rbkright_of r.height r.prev r.l r.ad r.cp w z.2.2.1 (TxsAt.of_ok hk) z.1 z.2.1
  rw [show (Blq.mk r.height r.prev r.l r.ad r.cp).b = q.b from h] at y
  exact y
theorem rbkid_any {q r : Blq} {w : World} (h : r.b = q.b) (hk : ∀ A ∈ r.rows 68 104 58 142, A.ok w) (hL : ∀ x ∈ q.l, Low x.t) (hF : ∀ x ∈ q.l, x.t.Fit) (hl : q.l.length ≤ 1000000) (hh : fits .i64 q.height) : Calls Tryz.prog 10 #[.agg (Blq.c r).toArray] w fun e w' => e = .returned (.string (bkID q.b)) ∧ Ch [] w w' := by
  have z := rlow h hL hF hl hh
  have y := rbkid_of r.height r.prev r.l r.ad r.cp w z.2.2.1 (TxsAt.of_ok hk) z.1 z.2.1 z.2.2.2
  rw [show (Blq.mk r.height r.prev r.l r.ad r.cp).b = q.b from h] at y
  exact y
theorem rbkenc_any {q r : Blq} {w : World} (h : r.b = q.b) (hk : ∀ A ∈ r.rows 68 104 58 142, A.ok w) (hL : ∀ x ∈ q.l, Low x.t) (hF : ∀ x ∈ q.l, x.t.Fit) (hl : q.l.length ≤ 1000000) (hh : fits .i64 q.height) : Calls Tryz.prog 12 #[.agg (Blq.c r).toArray] w fun e w' => e = .returned (.string (bkEnc q.b)) ∧ Ch [] w w' := by
  have z := rlow h hL hF hl hh
  have y := rbkenc_of r.height r.prev r.l r.ad r.cp w z.2.2.1 (TxsAt.of_ok hk) z.1 z.2.1 z.2.2.2
  rw [show (Blq.mk r.height r.prev r.l r.ad r.cp).b = q.b from h] at y
  exact y
theorem rbksame_any {q r u v : Blq} {w : World} (h : r.b = q.b) (h2 : v.b = u.b) (hk : ∀ A ∈ r.rows 68 104 58 142, A.ok w) (hk2 : ∀ A ∈ v.rows 68 104 58 142, A.ok w) (hL : ∀ x ∈ q.l, Low x.t) (hF : ∀ x ∈ q.l, x.t.Fit) (hl : q.l.length ≤ 1000000) (hh : fits .i64 q.height) (hM : ∀ x ∈ u.l, Low x.t) (hG : ∀ x ∈ u.l, x.t.Fit) (hm : u.l.length ≤ 1000000) (hi : fits .i64 u.height) : Calls Tryz.prog 14 #[.agg (Blq.c r).toArray, .agg (Blq.c v).toArray] w fun e w' => e = .returned (.bool (decide (q.b = u.b))) ∧ Ch [] w w' := by
  have z := rlow h hL hF hl hh
  have z2 := rlow h2 hM hG hm hi
  have y := rbksame_of r.height r.prev r.l r.ad r.cp v.height v.prev v.l v.ad v.cp w z.2.2.1 z2.2.2.1 (TxsAt.of_ok hk) (TxsAt.of_ok hk2) z.1 z2.1
  rw [show (Blq.mk r.height r.prev r.l r.ad r.cp).b = q.b from h, show (Blq.mk v.height v.prev v.l v.ad v.cp).b = u.b from h2] at y
  exact y
theorem out6_fit {l : List Oup} (h : ∀ o ∈ l, o.Fit) : ∀ o ∈ (l.take 6).map ctOu, o.Fit := fun o ho => by
  obtain ⟨x, hx, rfl⟩ := List.mem_map.1 ho
  exact ctOu_fit (h x (List.mem_of_mem_take hx))
theorem out6_key (l : List Oup) : ∀ o ∈ (l.take 6).map ctOu, o.key.size ≤ 1000 := fun o ho => by
  obtain ⟨x, hx, rfl⟩ := List.mem_map.1 ho
  have := cutS_size x.key 40
  show (cutS x.key 40).size ≤ 1000
  omega
theorem out6_len (l : List Oup) : ((l.take 6).map ctOu).length ≤ 100 := by rw [List.length_map, List.length_take]; omega
theorem blockPuts_any (q0 q1 : Blq) (ad : Option Addr) (c : Nat) (l : List Oup) (w : World) (hf0 : q0.b.Fit) (hE0 : TxsAt w q0.ad q0.l) (hf1 : q1.b.Fit) (hE1 : TxsAt w q1.ad q1.l) (hf : ∀ o ∈ l, o.Fit) (hE : ElAt w ad 9 (l.map Oup.c)) :
  Calls Tryz.prog 3 #[.agg (Blq.c q0).toArray, .agg (Blq.c q1).toArray, .slice ad l.length c] w fun e w' => e = .returned (.bool true) ∧ Ch [] w w' := by
 refine calls_of (n := 69) (E := [(0, .agg (Blq.c q0).toArray), (1, .agg (Blq.c q1).toArray), (2, .slice ad l.length c)]) (W := Hp w [] []) Tryz.func3 rfl rfl (Nat.le_of_ble_eq_true rfl) rfl (Hp.nil _ _) ?_
 refine jsr ?_
 refine jl_m rfl (by decide) rfl (m_box rfl rfl) (fun b3 => ?_)
 refine jl_m rfl (by decide) rfl (m_box rfl rfl) (fun b4 => ?_)
 refine jz ?_
 refine jnt ?_
 refine jsr ?_
 refine jz ?_
 refine jl_gcallL rfl (by decide) rfl (goes_func rfl) (fun w1 hw1 => cutbk_any q0 w1 (hE0.keep hw1)) (fun r => ?_)
 refine jst ?_
 refine jnt ?_
 refine jsr ?_
 refine jz ?_
 refine jl_gcallL rfl (by decide) rfl (goes_func rfl) (fun w1 hw1 => cutbk_any q1 w1 (hE1.keep hw1)) (fun d => ?_)
 refine jst ?_
 refine jnt ?_
 refine jsr ?_
 refine jz ?_
 refine jl_gcall2 rfl (by decide) rfl (goes_func rfl) (fun w1 hw1 => outs_any ad l c w1 (hE.keep hw1)) (fun pr => ?_)
 refine jz ?_
 refine jz ?_
 refine jz ?_
 refine jz ?_
 refine jz ?_
 refine jnt ?_
 refine jc_seq ?_
 refine jc_rebase (fun wx hbx => ?_)
 have hP : Old wx b3 0 (Blq.c r.1) := Old.of_cells (hbx.get mem3)
 have hQ : Old wx b4 0 (Blq.c d.1) := Old.of_cells (hbx.get mem2)
 have cP := Cutd.of r.2 hf0 hbx (fun A hA => .tail _ (.tail _ (.tail _ (.tail _ (List.mem_append_left _ hA)))))
 have cQ := Cutd.of d.2 hf1 hbx (fun A hA => .tail _ (.tail _ (.tail _ (.tail _ (List.mem_append_right _ hA)))))
 have eO : ElAt wx pr.1.1 9 (((l.take 6).map ctOu).map Oup.c) := ElAt.of_row (fun _ => rfl) rfl (hbx.get mem1)
 have eR : ElAt wx pr.2.1 9 (((l.take 6).map ctOu).map Oup.c) := ElAt.of_row (fun _ => rfl) rfl (hbx.get mem0)
 refine jc_drop [6] ?_
 refine jc_free (by kernel_rfl) Hp.stay ?_
 refine jn_y [] rfl rfl (fun w1 hw1 => And.intro rfl (y_loadAgg_old rfl rfl (hP.keep hw1) (by simp))) ?_
 refine jn_call [0] rfl rfl (fun w1 hw1 => And.intro rfl ⟨_, _, goes_func rfl, bkright_any r.1 w1 cP.len (cP.keep hw1).at_ cP.low⟩) ?_
 refine jn_y [] rfl rfl (fun w1 hw1 => And.intro rfl (y_loadAgg_old rfl rfl (hP.keep hw1) (by simp))) ?_
 refine jn_gcall [2] rfl rfl (fun w1 hw1 => And.intro rfl ⟨_, _, goes_func rfl, refbk_any r.1 w1 cP.len (cP.keep hw1).at_ (low6 r.2)⟩) ?_
 refine jn_call [3] rfl rfl (fun w1 hw1 ra h21 => And.intro rfl ⟨_, _, goes_func rfl, rbkright_any ra.2 h21 cP.low cP.fit cP.len cP.high⟩) ?_
 refine jn_y [1, 4] rfl rfl (fun w1 hw1 => And.intro rfl (y_eql_bool rfl rfl)) ?_
 refine jn_as (u := .bool true) (congrArg Value.bool (beq_self_eq_true _)) ?_
 refine jn_y [5] rfl rfl (fun w1 hw1 => And.intro rfl (y_move rfl)) ?_
 refine jn_y [6] rfl rfl (fun w1 hw1 => And.intro rfl (y_loadAgg_old rfl rfl (hP.keep hw1) (by simp))) ?_
 refine jn_call [6, 7] rfl rfl (fun w1 hw1 => And.intro rfl ⟨_, _, goes_func rfl, bkid_any r.1 w1 cP.len (cP.keep hw1).at_ cP.low cP.fit cP.high⟩) ?_
 refine jn_y [6] rfl rfl (fun w1 hw1 => And.intro rfl (y_loadAgg_old rfl rfl (hP.keep hw1) (by simp))) ?_
 refine jn_gcall [6, 9] rfl rfl (fun w1 hw1 => And.intro rfl ⟨_, _, goes_func rfl, refbk_any r.1 w1 cP.len (cP.keep hw1).at_ (low6 r.2)⟩) ?_
 refine jn_call [6, 10] rfl rfl (fun w1 hw1 rb h28 => And.intro rfl ⟨_, _, goes_func rfl, rbkid_any rb.2 h28 cP.low cP.fit cP.len cP.high⟩) ?_
 refine jn_y [6, 8, 11] rfl rfl (fun w1 hw1 => And.intro rfl (y_seql rfl rfl)) ?_
 refine jn_as (u := .bool true) (congrArg (fun b => Value.bool b) (decide_eq_true (rfl))) ?_
 refine jn_y [6, 12] rfl rfl (fun w1 hw1 => And.intro rfl (y_pick_true rfl rfl)) ?_
 refine jn_y [13] rfl rfl (fun w1 hw1 => And.intro rfl (y_move rfl)) ?_
 refine jn_y [14] rfl rfl (fun w1 hw1 => And.intro rfl (y_loadAgg_old rfl rfl (hP.keep hw1) (by simp))) ?_
 refine jn_call [14, 15] rfl rfl (fun w1 hw1 => And.intro rfl ⟨_, _, goes_func rfl, bkenc_any r.1 w1 cP.len (cP.keep hw1).at_ cP.low cP.fit cP.high⟩) ?_
 refine jn_y [14] rfl rfl (fun w1 hw1 => And.intro rfl (y_loadAgg_old rfl rfl (hP.keep hw1) (by simp))) ?_
 refine jn_gcall [14, 17] rfl rfl (fun w1 hw1 => And.intro rfl ⟨_, _, goes_func rfl, refbk_any r.1 w1 cP.len (cP.keep hw1).at_ (low6 r.2)⟩) ?_
 refine jn_call [14, 18] rfl rfl (fun w1 hw1 rc h36 => And.intro rfl ⟨_, _, goes_func rfl, rbkenc_any rc.2 h36 cP.low cP.fit cP.len cP.high⟩) ?_
 refine jn_y [14, 16, 19] rfl rfl (fun w1 hw1 => And.intro rfl (y_seql rfl rfl)) ?_
 refine jn_as (u := .bool true) (congrArg (fun b => Value.bool b) (decide_eq_true (rfl))) ?_
 refine jn_y [14, 20] rfl rfl (fun w1 hw1 => And.intro rfl (y_pick_true rfl rfl)) ?_
 refine jn_y [21] rfl rfl (fun w1 hw1 => And.intro rfl (y_move rfl)) ?_
 refine jn_y [22] rfl rfl (fun w1 hw1 => And.intro rfl (y_loadAgg_old rfl rfl (hP.keep hw1) (by simp))) ?_
 refine jn_y [22] rfl rfl (fun w1 hw1 => And.intro rfl (y_loadAgg_old rfl rfl (hQ.keep hw1) (by simp))) ?_
 refine jn_call [22, 23, 24] rfl rfl (fun w1 hw1 => And.intro rfl ⟨_, _, goes_func rfl, bksame_any r.1 d.1 w1 cP.len cQ.len (cP.keep hw1).at_ (cQ.keep hw1).at_ cP.low cQ.low⟩) ?_
 refine jn_y [22] rfl rfl (fun w1 hw1 => And.intro rfl (y_loadAgg_old rfl rfl (hP.keep hw1) (by simp))) ?_
 refine jn_gcall [22, 26] rfl rfl (fun w1 hw1 => And.intro rfl ⟨_, _, goes_func rfl, refbk_any r.1 w1 cP.len (cP.keep hw1).at_ (low6 r.2)⟩) ?_
 refine jn_y [22] rfl rfl (fun w1 hw1 => And.intro rfl (y_loadAgg_old rfl rfl (hQ.keep hw1) (by simp))) ?_
 refine jn_gcall [22, 28] rfl rfl (fun w1 hw1 => And.intro rfl ⟨_, _, goes_func rfl, refbk_any d.1 w1 cQ.len (cQ.keep hw1).at_ (low6 d.2)⟩) ?_
 refine jn_call [22, 27, 29] rfl rfl (fun w1 hw1 rd h45 re h47 => And.intro rfl ⟨_, _, goes_func rfl, rbksame_any rd.2 re.2 h45 h47 cP.low cP.fit cP.len cP.high cQ.low cQ.fit cQ.len cQ.high⟩) ?_
 refine jn_y [22, 25, 30] rfl rfl (fun w1 hw1 => And.intro rfl (y_eql_bool rfl rfl)) ?_
 refine jn_as (u := .bool true) (congrArg Value.bool (beq_self_eq_true _)) ?_
 refine jn_y [22, 31] rfl rfl (fun w1 hw1 => And.intro rfl (y_pick_true rfl rfl)) ?_
 refine jn_y [32] rfl rfl (fun w1 hw1 => And.intro rfl (y_move rfl)) ?_
 refine jn_y [33] rfl rfl (fun w1 hw1 => And.intro rfl (y_move rfl)) ?_
 refine jn_call [33, 34] rfl rfl (fun w1 hw1 => And.intro rfl ⟨_, _, goes_func rfl, bfirst_any pr.1.1 ((l.take 6).map ctOu) pr.1.2 w1 (out6_len l) (eO.keep hw1) (out6_fit hf) (out6_key l)⟩) ?_
 refine jn_y [33] rfl rfl (fun w1 hw1 => And.intro rfl (y_move rfl)) ?_
 refine jn_call [33, 36] rfl rfl (fun w1 hw1 => And.intro rfl ⟨_, _, goes_func rfl, rbfirst_any pr.2.1 ((l.take 6).map ctOu) pr.2.2 w1 (out6_len l) (eR.keep hw1) (out6_fit hf) (out6_key l)⟩) ?_
 refine jn_y [33, 35, 37] rfl rfl (fun w1 hw1 => And.intro rfl (y_seql rfl rfl)) ?_
 refine jn_as (u := .bool true) (congrArg (fun b => Value.bool b) (decide_eq_true (rfl))) ?_
 refine jn_y [33, 38] rfl rfl (fun w1 hw1 => And.intro rfl (y_pick_true rfl rfl)) ?_
 refine jn_y [39] rfl rfl (fun w1 hw1 => And.intro rfl (y_move rfl)) ?_
 refine jn_y [40] rfl rfl (fun w1 hw1 => And.intro rfl (y_move rfl)) ?_
 refine jn_call [40, 41] rfl rfl (fun w1 hw1 => And.intro rfl ⟨_, _, goes_func rfl, bbegin_any pr.1.1 ((l.take 6).map ctOu) pr.1.2 w1 (out6_len l) (eO.keep hw1) (out6_fit hf) (out6_key l) 2⟩) ?_
 refine jn_y [40] rfl rfl (fun w1 hw1 => And.intro rfl (y_move rfl)) ?_
 refine jn_call [40, 43] rfl rfl (fun w1 hw1 => And.intro rfl ⟨_, _, goes_func rfl, rbfirst_any pr.2.1 ((l.take 6).map ctOu) pr.2.2 w1 (out6_len l) (eR.keep hw1) (out6_fit hf) (out6_key l)⟩) ?_
 refine jn_y [40, 44] rfl rfl (fun w1 hw1 => And.intro rfl (y_build (Built.cell rfl rfl rfl (by repeat constructor) (Built.cell rfl rfl rfl (by repeat constructor) Built.nil)))) ?_
 refine jn_y [40, 42, 45] rfl rfl (fun w1 hw1 => And.intro rfl (y_eql_agg rfl rfl (by kernel_rfl) (fun w => eq_pnt 9998 ⟨bkFirst ((l.take 6).map ctOu), 2⟩ ⟨bkFirst ((l.take 6).map ctOu), 2⟩ w))) ?_
 refine jn_as (u := .bool true) (congrArg Value.bool (decide_eq_true rfl)) ?_
 refine jn_y [40, 46] rfl rfl (fun w1 hw1 => And.intro rfl (y_pick_true rfl rfl)) ?_
 refine jn_y [47] rfl rfl (fun w1 hw1 => And.intro rfl (y_move rfl)) ?_
 refine jn_call [48] rfl rfl (fun w1 hw1 => And.intro rfl ⟨_, _, goes_func rfl, fixed10_any w1⟩) ?_
 refine jn_y [48, 49] rfl rfl (fun w1 hw1 => And.intro rfl (y_pick_true rfl rfl)) ?_
 refine jn_y [50] rfl rfl (fun w1 hw1 => And.intro rfl (y_assign rfl)) ?_
 refine jn_nil [51] (by decide) (fun w1 hw1 => jq_at hw1 ?_)
 refine jq_then ?_
 refine jc_ret ?_
 refine jq_ret1 rfl rfl ?_
 exact fun _ hw => ⟨rfl, (hbx.ch.then hw.ch)⟩

end Go.Proofs.YtomhcibbalhgkaaGreat
