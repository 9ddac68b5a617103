/- Transactions one behind the other, each with its rows; blocks of such. -/
import Derived.Test.YtomhcibbalhgkaaGreatMblk
import Derived.Test.YtomhcibbalhgkaaGreatJt
import Derived.Test.YtomhcibbalhgkaaGreatJs
namespace Go.Proofs.YtomhcibbalhgkaaGreat
open Go.RowKit

/-- A transaction, and where its rows lie. -/
structure Txq where
  t : Trx
  a1 : Option Addr
  c1 : Nat
  a2 : Option Addr
  c2 : Nat
  a3 : Option Addr
  c3 : Nat
abbrev Txq.c (q : Txq) : List Value := Trx.c q.t q.a1 q.c1 q.a2 q.c2 q.a3 q.c3
structure Txq.At (q : Txq) (w : World) : Prop where
  ins : ElAt w q.a1 4 (q.t.ins.map Inp.c)
  outs : ElAt w q.a2 9 (q.t.outs.map Oup.c)
  wins : ElAt w q.a3 10 (q.t.pf.wins.map Wn.c)
theorem Txq.At.keep {q : Txq} {w w1 : World} {H : List HA} (h : q.At w) (hw : Hp w [] H w1) : q.At w1 := ⟨h.ins.keep hw, h.outs.keep hw, h.wins.keep hw⟩
/-- Its rows, as own blocks. -/
def Txq.rows (q : Txq) (ti to tw : Nat) : List HA := [.row q.a1 q.t.ins.length q.c1 ti 4 (q.t.ins.flatMap Inp.c), .row q.a2 q.t.outs.length q.c2 to 9 (q.t.outs.flatMap Oup.c), .row q.a3 q.t.pf.wins.length q.c3 tw 10 (q.t.pf.wins.flatMap Wn.c)]
def rowsQ (ti to tw : Nat) (l : List Txq) : List HA := l.flatMap fun q => q.rows ti to tw
structure TxsAt (w : World) (ad : Option Addr) (l : List Txq) : Prop where
  el : ElAt w ad 6 (l.map Txq.c)
  each : ∀ q ∈ l, q.At w
theorem TxsAt.keep {ad : Option Addr} {l : List Txq} {w w1 : World} {H : List HA} (h : TxsAt w ad l) (hw : Hp w [] H w1) : TxsAt w1 ad l := ⟨h.el.keep hw, fun q hq => (h.each q hq).keep hw⟩
theorem TxsAt.take {ad : Option Addr} {l : List Txq} {w : World} (h : TxsAt w ad l) (k : Nat) : TxsAt w ad (l.take k) := ⟨by rw [List.map_take]; exact h.el.take k, fun q hq => h.each q (List.mem_of_mem_take hq)⟩
theorem TxsAt.get {ad : Option Addr} {l : List Txq} {w : World} (h : TxsAt w ad l) {i : Nat} (hi : i < l.length) : ∃ b o, ad = some ⟨b, o, none⟩ ∧ Old w b (o + i * 6) (Txq.c l[i]) := h.el.get hi
theorem txs_none (w : World) : TxsAt w none [] := ⟨fun i cs h => by simp at h, fun q hq => by cases hq⟩
theorem Txq.at_rows {q : Txq} {w : World} {ti to tw : Nat} (h : ∀ A ∈ q.rows ti to tw, A.ok w) : q.At w :=
  ⟨ElAt.of_row (fun _ => rfl) rfl (h _ mem0), ElAt.of_row (fun _ => rfl) rfl (h _ mem1), ElAt.of_row (fun _ => rfl) rfl (h _ mem2)⟩
theorem TxsAt.of_own {ad : Option Addr} {n cap e ti to tw : Nat} {l : List Txq} {w0 w : World} {S : List Nat} {H : List HA} (h : Hp w0 S H w) (hr : HA.row ad n cap e 6 (l.flatMap Txq.c) ∈ H) (hn : n = l.length) (hm : ∀ A ∈ rowsQ ti to tw l, A ∈ H) : TxsAt w ad l :=
  ⟨ElAt.of_row (fun _ => rfl) hn (h.get hr), fun q hq => Txq.at_rows (ti := ti) (to := to) (tw := tw) fun A hA => h.get (hm A (List.mem_flatMap.2 ⟨q, hq, hA⟩))⟩
/-- A block, and where its transactions lie. -/
structure Blq where
  height : Int
  prev : ByteArray
  l : List Txq
  ad : Option Addr
  cp : Nat
abbrev Blq.c (q : Blq) : List Value := [.int .i64 q.height, .string q.prev, .slice q.ad q.l.length q.cp]
abbrev txsQ (l : List Txq) : List Trx := l.map Txq.t
abbrev Blq.b (q : Blq) : Blk := ⟨q.height, q.prev, txsQ q.l⟩
structure Blk.Fit (b : Blk) : Prop where
  height : fits .i64 b.height
  txs : ∀ t ∈ b.txs, t.Fit
/-- Small enough to be walked. -/
structure Low (t : Trx) : Prop where
  a : t.ins.length ≤ 1000000000
  b : t.outs.length ≤ 1000000000
  d : t.pf.wins.length ≤ 1000000000
def Blq.rows (tt ti to tw : Nat) (q : Blq) : List HA := .row q.ad q.l.length q.cp tt 6 (q.l.flatMap Txq.c) :: rowsQ ti to tw q.l
theorem rowsQ_snoc {ti to tw : Nat} (l : List Txq) (q : Txq) : rowsQ ti to tw (l ++ [q]) = rowsQ ti to tw l ++ q.rows ti to tw := by unfold rowsQ; simp
section
variable {w0 w : World} {S : List Nat} {K F G H : List HA}
theorem Del.app {A : HA} {K' : List HA} (d : Del A K K') (G : List HA) : Del A (K ++ G) (K' ++ G) := by
  induction d with
  | head => exact .head
  | tail _ ih => exact .tail ih
theorem del_mid {A : HA} : ∀ (K : List HA), Del A (K ++ A :: G) (K ++ G)
  | [] => .head
  | B :: K => .tail (del_mid K)
theorem part_end : ∀ (G K : List HA), Part G (K ++ G)
  | [], _ => .nil
  | A :: G, K => .cons (del_mid K) (part_end G K)
theorem Part.app (p : Part F K) (G : List HA) : Part (F ++ G) (K ++ G) := by
  induction p with
  | nil => exact part_end G _
  | cons d _ ih => exact .cons (d.app G) ih
/-- Some of the first blocks; all of the rest. -/
theorem Hp.partA (K F : List HA) (h : Hp w0 S (K ++ G) w) (p : Part F K) : Hp w0 S (F ++ G) w := h.part (p.app G)
theorem Hp.snocQ {ti to tw : Nat} {l : List Txq} (q : Txq) (h : Hp w0 S ((q.rows ti to tw ++ F) ++ rowsQ ti to tw l) w) : Hp w0 S (F ++ rowsQ ti to tw (l ++ [q])) w := by
  rw [rowsQ_snoc]
  refine h.perm ?_
  rw [← List.append_assoc F, List.append_assoc]
  exact List.perm_append_comm
end
section
variable {P : Program} {n : Nat} {E : Env} {Q : Exit → Act → World → Prop} {ops : Array Oper} {rest : List Oper} {o : Oper} {d : Nat} {f : Nat} {args : Array Value} {w0 : World} {S : List Nat} {H : List HA} {ι : Type} {v : ι → Value}
theorem js_gcall3 {C : World → Prop} {tail : List Oper} {rest : List (Oper × Bool)} {A B D : ι → HA} (hW : ∀ w, Hp w0 S H w → C w) (hd : o.dst = some d) (hn : d < n) (hg : want ops E o = some true) (hf : Goes P n E o f args)
    (hc : ∀ w, Hp w0 S H w → Calls P f args w fun e w' => ∃ b, e = .returned (v b) ∧ Hp w [] [A b, B b, D b] w') (k : ∀ b, JS P n Q C (Hp w0 S (A b :: B b :: D b :: H)) ops tail rest ((d, v b) :: E)) : JS P n Q C (Hp w0 S H) ops tail ((o, false) :: rest) E :=
  js_call (v := v) (W' := fun b => Hp w0 S (A b :: B b :: D b :: H)) (fun _ w h => hW w h.pop.pop.pop) hd hn hg hf (fun w hw => (hc w hw).mono fun _ _ ⟨b, he, h⟩ => ⟨b, he, hw.many h⟩) k
/-- A call that hands back any number of own blocks. -/
theorem jl_gcallL {As : ι → List HA} (hd : o.dst = some d) (hn : d < n) (hg : want ops E o = some true) (hf : Goes P n E o f args)
    (hc : ∀ w, Hp w0 S H w → Calls P f args w fun e w' => ∃ b, e = .returned (v b) ∧ Hp w [] (As b) w') (k : ∀ b, JL P n Q (Hp w0 S (H ++ As b)) ops rest ((d, v b) :: E)) : JL P n Q (Hp w0 S H) ops (o :: rest) E :=
  jl_call (v := v) (W' := fun b => Hp w0 S (H ++ As b)) hd hn hg hf (fun w hw => (hc w hw).mono fun _ _ ⟨b, he, h⟩ => ⟨b, he, (hw.many h).perm List.perm_append_comm⟩) k
end
end Go.Proofs.YtomhcibbalhgkaaGreat
