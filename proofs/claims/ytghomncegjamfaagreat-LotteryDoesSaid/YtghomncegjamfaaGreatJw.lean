/- The calculus, part twenty: elements in none of the blocks that may be written; copies, cuts and clearings of own rows. -/
import Derived.Test.YtghomncegjamfaaGreatJr
import Derived.Laws.Slices
import Derived.Test.YtghomncegjamfaaGreatNo
import Derived.Laws.OwnMore
import Derived.Laws.CopyRow
namespace Go.Proofs.YtghomncegjamfaaGreat
open Go.RowKit

section
variable {P : Program} {n : Nat} {E : Env} {W : World → Prop} {d : Option Tmp} {ty T e size bytes : Nat} {zs : List Value} {pos : String} {af : Array Edge} {g : Option (Nat × Bool)} {x y z : Operand} {ad : Option Addr} {l c : Nat} {k k' : IntKind} {p q : Int}
/-- Where the part from an element on lies. -/
def subAd (ad : Option Addr) (c m size : Nat) : Option Addr := if c = m then ad else ad.map (·.add (m * size))
theorem elem_of [hT : TSlice P T e] : P.elem T = e := by simp [Program.elem, hT.h]
theorem y_sl_hi [hT : TSlice P T e] [hI : TInfo P e size bytes zs] (hx : ev E x = some (.slice ad l c)) (hz : ev E z = some (.int k q)) (h0 : 0 ≤ q) (h1 : q ≤ c) : Yields P n E W ⟨d, .slice T x none (some z) none, ty, pos, af, g⟩ (.slice ad q.toNat c) := fun a w ha _ => by
  obtain ⟨i, zv, hi, hs, _⟩ := hI.h
  have ht : P.underlying T = some (.slice (P.elem T)) := by rw [elem_of (e := e)]; exact hT.h
  have h2 := run_slice_h (P := P) w T ad l c ht k q h0 h1
  have hsz : (sizeOf (P.elem T)).run P w = .ok size w := by rw [elem_of (e := e)]; simp [sizeOf, typeInfo, hi, hs]
  rw [hsz, Result.andThen_ok] at h2
  simp only [execOp, ha.ev hx, Option.map_some, Option.map_none, ha.ev hz, run_sliceAt_slice w T _ _ _ _ ht, Sem.run_bind, h2]
  cases ad <;> simp [sliced, Addr.add]
theorem y_sl_lo [hT : TSlice P T e] [hI : TInfo P e size bytes zs] (hx : ev E x = some (.slice ad l c)) (hy : ev E y = some (.int k p)) (h0 : 0 ≤ p) (h1 : p ≤ l) : Yields P n E W ⟨d, .slice T x (some y) none none, ty, pos, af, g⟩ (.slice (subAd ad c p.toNat size) (l - p.toNat) (c - p.toNat)) := fun a w ha _ => by
  obtain ⟨i, zv, hi, hs, _⟩ := hI.h
  have ht : P.underlying T = some (.slice (P.elem T)) := by rw [elem_of (e := e)]; exact hT.h
  have h2 := run_slice_l (P := P) w T ad l c ht k p h0 h1
  have hsz : (sizeOf (P.elem T)).run P w = .ok size w := by rw [elem_of (e := e)]; simp [sizeOf, typeInfo, hi, hs]
  rw [hsz, Result.andThen_ok] at h2
  simp only [execOp, ha.ev hx, Option.map_some, Option.map_none, ha.ev hy, run_sliceAt_slice w T _ _ _ _ ht, Sem.run_bind, h2]
  simp [sliced, subAd]
end
theorem ElAt.take {w : World} {ad : Option Addr} {sz : Nat} {els : List (List Value)} (h : ElAt w ad sz els) (k : Nat) : ElAt w ad sz (els.take k) := fun i cs hc => h i cs (by
  have hi := (List.getElem?_eq_some_iff.1 hc).1
  rw [List.length_take] at hi
  rwa [List.getElem?_take_of_lt (by omega)] at hc)
theorem ElAt.drop {w : World} {ad : Option Addr} {sz c : Nat} {els : List (List Value)} (h : ElAt w ad sz els) (k : Nat) (hc : els.length ≤ c) : ElAt w (subAd ad c k sz) sz (els.drop k) := fun i cs hi => by
  rw [List.getElem?_drop] at hi
  have hl := (List.getElem?_eq_some_iff.1 hi).1
  obtain ⟨b, o, e, h1⟩ := h _ cs hi
  subst e
  refine ⟨b, o + k * sz, by unfold subAd; rw [if_neg (by omega)]; simp [Addr.add], ?_⟩
  rwa [show o + k * sz + i * sz = o + (k + i) * sz by rw [Nat.add_mul]; omega]
end Go.Proofs.YtghomncegjamfaaGreat

namespace Go.Proofs.YtghomncegjamfaaGreat
open Go.RowKit

/-- Elements that lie in none of the blocks that may be written. -/
def ElO (w : World) (S : List Nat) (ad : Option Addr) (sz : Nat) (els : List (List Value)) : Prop := ∀ i cs, els[i]? = some cs → ∃ b o, ad = some ⟨b, o, none⟩ ∧ b ∉ S ∧ Old w b (o + i * sz) cs
theorem ElO.keep {w w1 : World} {S : List Nat} {ad : Option Addr} {sz : Nat} {els : List (List Value)} {H : List HA} (h : ElO w S ad sz els) (hw : Hp w S H w1) : ElO w1 S ad sz els := fun i cs hc =>
  let ⟨b, o, e, hb, h1⟩ := h i cs hc; ⟨b, o, e, hb, fun j u hj => hw.cell (h1 j u hj) hb⟩
theorem ElO.el {w : World} {S : List Nat} {ad : Option Addr} {sz : Nat} {els : List (List Value)} (h : ElO w S ad sz els) : ElAt w ad sz els := fun i cs hc => let ⟨b, o, e, _, h1⟩ := h i cs hc; ⟨b, o, e, h1⟩
theorem ElAt.elO {w : World} {ad : Option Addr} {sz : Nat} {els : List (List Value)} (h : ElAt w ad sz els) : ElO w [] ad sz els := fun i cs hc => let ⟨b, o, e, h1⟩ := h i cs hc; ⟨b, o, e, by simp, h1⟩
theorem ElO.get {α : Type} {w : World} {S : List Nat} {ad : Option Addr} {sz : Nat} {l : List α} {c : α → List Value} (h : ElO w S ad sz (l.map c)) {i : Nat} (hi : i < l.length) : ∃ b o, ad = some ⟨b, o, none⟩ ∧ b ∉ S ∧ Old w b (o + i * sz) (c l[i]) := h i (c l[i]) (by rw [List.getElem?_map, List.getElem?_eq_getElem hi]; rfl)
theorem ElO.mono {w : World} {S T : List Nat} {ad : Option Addr} {sz : Nat} {els : List (List Value)} (h : ElO w T ad sz els) (hs : ∀ x ∈ S, x ∈ T) : ElO w S ad sz els := fun i cs hc => let ⟨b, o, e, hb, h1⟩ := h i cs hc; ⟨b, o, e, fun q => hb (hs b q), h1⟩
/-- What lay there ahead of a new block lies in none of it. -/
theorem ElO.grow {w wp w1 : World} {S : List Nat} {H : List HA} {ad : Option Addr} {sz : Nat} {els : List (List Value)} {A : HA} {k : Nat} (h : ElO w S ad sz els) (hp : Hp w S H wp) (hn : Fresh wp w1 A) (hA : A.foot = some k) (h1 : ∀ cs ∈ els, 0 < cs.length) : ElO w1 (k :: S) ad sz els := fun i cs hc => by
  obtain ⟨b, o, e, hb, h2⟩ := h i cs hc
  have h3 := h1 cs (List.mem_of_getElem? hc)
  refine ⟨b, o, e, fun hm => ?_, fun j u hj => ?_⟩
  · rcases List.mem_cons.1 hm with rfl | hm
    · have h4 := World.block_lt_of_cell? w _ (h2 0 _ (List.getElem?_eq_getElem h3))
      have h5 := hn.2.2 _ hA
      have h6 := hp.ch.size
      have : b < w.heap.size := h4
      omega
    · exact hb hm
  · have h4 : wp.cell? ⟨b, o + i * sz + j, none⟩ = some u := hp.cell (h2 j u hj) hb
    exact (show CellAt wp b _ u from h4).ch hn.1
/-- An own row, with the other own blocks as those that may be written. -/
theorem ElO.of_own {α : Type} {w0 w : World} {S0 S : List Nat} {H : List HA} {ad : Option Addr} {n cap e sz : Nat} {l : List α} {c : α → List Value} (hc : ∀ x, (c x).length = sz) (hn : n = l.length) (h : Hp w0 S0 (.row ad n cap e sz (l.flatMap c) :: H) w) (hS : ∀ k ∈ S, ∃ B ∈ H, B.foot = some k) : ElO w S ad sz (l.map c) := fun i cs hi => by
  obtain ⟨b, o, ea, h1⟩ := ElAt.of_row hc hn (h.get mem0) i cs hi
  refine ⟨b, o, ea, fun hb => ?_, h1⟩
  obtain ⟨B, hB, hf⟩ := hS b hb
  have := (List.pairwise_cons.1 h.apart).1 B hB b
  subst ea
  exact this rfl hf

section
variable {P : Program} {n : Nat} {E : Env} {w0 : World} {S : List Nat} {H H1 H' : List HA} {d : Option Tmp} {x y z : Operand} {T T' ty : Nat} {pos : String} {af : Array Edge} {g : Option (Nat × Bool)} {k k' k2 : IntKind} {p q r : Int}
theorem row_shrink {w : World} {b l m cap e size : Nat} {xs : List Value} (h : w.ownsRow 0 e size (.slice (some ⟨b, 0, none⟩) l cap) l xs) (hm : m ≤ l) : w.ownsRow 0 e size (.slice (some ⟨b, 0, none⟩) m cap) m (xs.take (m * size)) := by
  obtain ⟨h1, h2⟩ := h
  have h3 : m * size ≤ l * size := Nat.mul_le_mul_right _ hm
  refine ⟨by rw [List.length_take]; omega, ?_⟩
  rcases h2 with ⟨hv, _⟩ | ⟨g, cc, cur, hv, hb, hg, hn, hc, hz, ht⟩
  · cases hv
  · refine .inr ⟨g, cc, cur, ?_, hb, hg, ?_, hc, hz, ?_⟩
    · cases hv; rfl
    · cases hv; omega
    · rw [← ht, List.take_take, Nat.min_eq_left h3]
/-- 'append(s[:i], s[j:]..)' of an own row: what stands between goes. -/
theorem m_delete {b l i m cap c e size bytes : Nat} {xs news zs : List Value} {src : Addr} [hT : TSlice P T e] [hI : TInfo P e size bytes zs] (hx : ev E x = some (.slice (some ⟨b, 0, none⟩) i cap)) (hy : ev E y = some (.slice (some src) m c))
    (hd : Del (.row (some ⟨b, 0, none⟩) l cap e size xs) H H1) (hi : i ≤ l) (hl : news.length = m * size) (hn : ∀ w, Hp w0 S H w → ∀ j u, news[j]? = some u → w.cell? (src.add j) = some u) (h1 : news.all Value.oneCell' = true) (hroom : i + m ≤ cap) :
    Makes P n E (Hp w0 S H) ⟨d, .call { callee := .builtin .append, args := #[x, y], argTypes := #[T, T] }, ty, pos, af, g⟩ (fun _ : Unit => .slice (some ⟨b, 0, none⟩) (i + m) cap) (fun _ => Hp w0 S (.row (some ⟨b, 0, none⟩) (i + m) cap e size (xs.take (i * size) ++ news) :: H1)) := fun a w ha hw => by
  obtain ⟨i', zv, hi', hs, hbt, hz, hzc, hzl, hpos⟩ := hI.h
  subst hs; subst hbt
  have hp := hw.perm hd.perm
  have hr0 : w.ownsRow 0 e i'.size (.slice (some ⟨b, 0, none⟩) l cap) l xs := hp.get (A := .row (some ⟨b, 0, none⟩) l cap e i'.size xs) (by simp)
  have hr := row_shrink hr0 hi
  have h1' : ∀ u ∈ news, u.oneCell' = true := fun u hu => List.all_eq_true.1 h1 u hu
  obtain ⟨w2, h2, hown, hgr⟩ := run_append_fits (P := P) w 0 T ty e i' i'.size hT.h hi' rfl b i cap _ hr src m c news hl (hn w hw) h1' hroom
  refine ⟨(), w2, by simp [execOp, resolve, invoke, builtin, ha.ev hx, ha.ev hy, h2], ?_⟩; refine hp.upd (A := .row (some ⟨b, 0, none⟩) l cap e i'.size xs) .head (Ch.of_grown hgr) ?_ hown ?_
  · intro k hk
    have hkb : k = b := by simpa using hk
    subst hkb; rfl
  · intro k hk
    exact .inl hk
/-- 'copy(s, t)' of an own row, all of it. -/
theorem m_copy {b l c sc e size bytes : Nat} {ad : Option Addr} {xs news zs : List Value} [hT : TSlice P T e] [hI : TInfo P e size bytes zs] (hx : ev E x = some (.slice (some ⟨b, 0, none⟩) l c)) (hy : ev E y = some (.slice ad l sc))
    (r : Rep (.row (some ⟨b, 0, none⟩) l c e size xs) (.row (some ⟨b, 0, none⟩) l c e size news) H H') (hl : news.length = l * size) (hn : ∀ w, Hp w0 S H w → (ad = none ∧ news = []) ∨ ∃ a, ad = some a ∧ ∀ j u, news[j]? = some u → w.cell? (a.add j) = some u) (h1 : news.all Value.oneCell' = true) :
    Makes P n E (Hp w0 S H) ⟨d, .call { callee := .builtin .copy, args := #[x, y], argTypes := #[T, T'] }, ty, pos, af, g⟩ (fun _ : Unit => .int .i64 l) (fun _ => Hp w0 S H') := fun a w ha hw => by
  obtain ⟨i', zv, hi', hs, hbt, hz, hzc, hzl, hpos⟩ := hI.h
  subst hs; subst hbt
  have hr0 : w.ownsRow 0 e i'.size (.slice (some ⟨b, 0, none⟩) l c) l xs := hw.get r.mem
  have h1' : ∀ u ∈ news, u.oneCell' = true := fun u hu => List.all_eq_true.1 h1 u hu
  obtain ⟨hxl, h2⟩ := hr0
  rcases h2 with ⟨hv, _⟩ | ⟨gg, cc, cur, hv, hb, hg, hnc, hcm, hcs, htk⟩
  · cases hv
  · cases hv
    have hsz : l * i'.size ≤ c * i'.size := Nat.mul_le_mul_right _ hnc
    have hst := run_storeCells_at P b 0 e news 0 cur w hg (by simp only [Nat.zero_add]; omega) h1'
    simp only [Nat.zero_add, List.take_zero, List.nil_append] at hst
    have hrun : (Builtin.copy_ #[T, T'] ty #[.slice (some ⟨b, 0, none⟩) l c, .slice ad l sc]).run P w = .ok (goInt l) (w.setRow b (news ++ cur.toList.drop news.length).toArray) := by
      rcases hn w hw with ⟨e1, e2⟩ | ⟨src, e1, h4⟩
      · subst e1 e2
        simp only [List.length_nil] at hl
        simp [Builtin.copy_, run_underlying hT.h, Builtin.lenOf, Builtin.firstCells, sizeOf, typeInfo, hi', hst]
      · subst e1
        have hld := run_loadCells_list (P := P) w src news h4
        rw [hl] at hld
        simp [Builtin.copy_, run_underlying hT.h, Builtin.lenOf, Builtin.firstCells, sizeOf, typeInfo, hi', hld, hst]
    refine ⟨(), w.setRow b (news ++ cur.toList.drop news.length).toArray, by simp [execOp, resolve, invoke, builtin, ha.ev hx, ha.ev hy, hrun, goInt], ?_⟩; refine hw.upd r (T := [b]) ⟨rfl, rfl, rfl, by simp [World.setRow], fun k _ hk => setRow_other w b k _ (by simpa using hk)⟩ (fun k hk => by simp at hk; subst hk; rfl) ?_ (fun k hk => .inl hk); refine ⟨hl, .inr ⟨b, c, _, rfl, Nat.zero_le _, setRow_heap w b cur _ e _ hg, hnc, hcm, ?_, ?_⟩⟩
    · simp only [List.size_toArray, List.length_append, List.length_drop, Array.length_toList]; omega
    · rw [← hl]; simp
theorem jl_v {Q : Exit → Act → World → Prop} {W : World → Prop} {ops : Array Oper} {rest : List Oper} {o : Oper} {ι : Type} {v : ι → Value} {W' : ι → World → Prop} (hd : o.dst = none) (hg : want ops E o = some true) (hy : Makes P n E W o v W') (k : ∀ i, JL P n Q (W' i) ops rest E) : JL P n Q W ops (o :: rest) E := fun a w ha hw =>
  wpList_step fun K hK => by
    rw [if_pos (want_spec ha hg)]
    obtain ⟨i, w', hr, hw'⟩ := hy a w ha hw
    unfold Oper.wp
    rw [hr, Oper.upon_value, hd]
    exact hK _ _ (k i _ _ ha hw')
theorem zero_one {zs : List Value} (h1 : zs.all Value.oneCell' = true) (h0 : 0 < zs.length) (m : Nat) : ∀ u ∈ (Builtin.zeroCells zs.toArray m).toList, u.oneCell' = true := fun u hu => by
  unfold Builtin.zeroCells at hu
  simp only [List.size_toArray, Array.toList_map, List.mem_map] at hu
  obtain ⟨j, _, rfl⟩ := hu
  have hj : j % zs.length < zs.length := Nat.mod_lt _ h0
  rw [getElem!_pos zs.toArray (j % zs.length) (by simpa using hj)]
  exact List.all_eq_true.1 h1 _ (by simp)
/-- 'clear(s[len(s):])' behind an own row. -/
theorem w_clear {b l m c sc e size bytes off : Nat} {xs zs : List Value} [hT : TSlice P T e] [hI : TInfo P e size bytes zs] (hx : ev E x = some (.slice (some ⟨b, off, none⟩) m sc)) (ho : off = l * size) (r : Rep (.row (some ⟨b, 0, none⟩) l c e size xs) (.row (some ⟨b, 0, none⟩) l c e size xs) H H') (hm : 0 < m) (hroom : l + m ≤ c) (h1 : zs.all Value.oneCell' = true) :
    Makes P n E (Hp w0 S H) ⟨d, .call { callee := .builtin .clear, args := #[x], argTypes := #[T] }, ty, pos, af, g⟩ (fun _ : Unit => .tuple #[]) (fun _ => Hp w0 S H') := fun a w ha hw => by
  obtain ⟨i', zv, hi', hs, hbt, hz, hzc, hzl, hpos⟩ := hI.h
  subst hs; subst hbt; subst ho
  have hr0 : w.ownsRow 0 e i'.size (.slice (some ⟨b, 0, none⟩) l c) l xs := hw.get r.mem
  obtain ⟨hxl, h2⟩ := hr0
  rcases h2 with ⟨hv, _⟩ | ⟨gg, cc, cur, hv, hb, hg, hnc, hcm, hcs, htk⟩
  · cases hv
  · cases hv
    have hzz : (Builtin.zeroCells zs.toArray m).size = m * zs.length := by simp [Builtin.zeroCells]
    have hvl : (Builtin.zeroCells zs.toArray m).toList.length = m * i'.size := by rw [Array.length_toList, hzz, hzl]
    have hsz : (l + m) * i'.size ≤ c * i'.size := Nat.mul_le_mul_right _ hroom
    rw [Nat.add_mul] at hsz
    have hst := run_storeCells_at P b (l * i'.size) e (Builtin.zeroCells zs.toArray m).toList 0 cur w hg (by omega) (zero_one h1 (by omega) m)
    simp only [Nat.add_zero] at hst
    obtain ⟨m', rfl⟩ : ∃ m', m = m' + 1 := ⟨m - 1, by omega⟩
    have hrun : (Builtin.clear_ #[T] ty #[.slice (some ⟨b, l * i'.size, none⟩) (m' + 1) sc]).run P w = .ok (.tuple #[]) (w.setRow b (cur.toList.take (l * i'.size) ++ (Builtin.zeroCells zs.toArray (m' + 1)).toList ++ cur.toList.drop (l * i'.size + (Builtin.zeroCells zs.toArray (m' + 1)).toList.length)).toArray) := by
      simp [Builtin.clear_, run_underlying hT.h, zeroValue, typeInfo, hi', hz, hzc, hst]
    refine ⟨(), w.setRow b (cur.toList.take (l * i'.size) ++ (Builtin.zeroCells zs.toArray (m' + 1)).toList ++ cur.toList.drop (l * i'.size + (Builtin.zeroCells zs.toArray (m' + 1)).toList.length)).toArray, by simp [execOp, resolve, invoke, builtin, ha.ev hx, hrun], ?_⟩; refine hw.upd r (T := [b]) ⟨rfl, rfl, rfl, by simp [World.setRow], fun k _ hk => setRow_other w b k _ (by simpa using hk)⟩ (fun k hk => by simp at hk; subst hk; rfl) ?_ (fun k hk => .inl hk); refine ⟨hxl, .inr ⟨b, c, _, rfl, Nat.zero_le _, setRow_heap w b cur _ e _ hg, hnc, hcm, ?_, ?_⟩⟩
    · simp only [List.size_toArray, List.length_append, List.length_take, List.length_drop, Array.length_toList] at hvl ⊢; omega
    · rw [← htk]
      simp only [List.append_assoc]
      rw [List.take_append_of_le_length (by rw [List.length_take, Array.length_toList]; omega), List.take_take, Nat.min_self]
/-- A part of a slice with a bound. -/
theorem y_sl_full {e size bytes l c : Nat} {ad : Option Addr} {zs : List Value} [hT : TSlice P T e] [hI : TInfo P e size bytes zs] {z2 : Operand} (hx : ev E x = some (.slice ad l c)) (hy : ev E y = some (.int k p)) (hz : ev E z = some (.int k' q)) (hm : ev E z2 = some (.int k2 r)) (h0 : 0 ≤ p) (h1 : p ≤ q) (h2 : q ≤ r) (h3 : r ≤ c) {W : World → Prop} :
    Yields P n E W ⟨d, .slice T x (some y) (some z) (some z2), ty, pos, af, g⟩ (sliced ad p.toNat q.toNat r.toNat size) := fun a w ha _ => by
  obtain ⟨i, zv, hi, hs, _⟩ := hI.h
  have ht : P.underlying T = some (.slice (P.elem T)) := by rw [elem_of (e := e)]; exact hT.h
  have eq : (q.toNat : Int) = q := Int.toNat_of_nonneg (by omega)
  have er : (r.toNat : Int) = r := Int.toNat_of_nonneg (by omega)
  have hsz : (sizeOf (P.elem T)).run P w = .ok size w := by rw [elem_of (e := e)]; simp [sizeOf, typeInfo, hi, hs]
  have hb : (Instr.slice T (.slice ad l c) (some (.int k p)) (some (.int k' q)) (some (.int k2 r))).run P w = .ok (sliced ad p.toNat q.toNat r.toNat size) w := by
    rw [run_slice_any w T ad l c ht]
    simp [Instr.sliceBounds, run_sliceBound, eq, er, h0, h1, h2, h3, (by omega : 0 ≤ q), (by omega : 0 ≤ r), (by omega : p ≤ r), hsz]
  simp only [execOp, ha.ev hx, Option.map_some, ha.ev hy, ha.ev hz, ha.ev hm, run_sliceAt_slice w T _ _ _ _ ht, Sem.run_bind, hb]
  simp
end
theorem y_sl_lh {P : Program} {n : Nat} {E : Env} {d : Option Tmp} {x y z : Operand} {T ty : Nat} {pos : String} {af : Array Edge} {g : Option (Nat × Bool)} {k k' : IntKind} {p q : Int} {e size bytes l c : Nat} {ad : Option Addr} {zs : List Value} [hT : TSlice P T e] [hI : TInfo P e size bytes zs] (hx : ev E x = some (.slice ad l c)) (hy : ev E y = some (.int k p)) (hz : ev E z = some (.int k' q)) (h0 : 0 ≤ p) (h1 : p ≤ q) (h2 : q ≤ c) {W : World → Prop} :
    Yields P n E W ⟨d, .slice T x (some y) (some z) none, ty, pos, af, g⟩ (.slice (subAd ad c p.toNat size) (q.toNat - p.toNat) (c - p.toNat)) := fun a w ha _ => by
  obtain ⟨i, zv, hi, hs, _⟩ := hI.h
  have ht : P.underlying T = some (.slice (P.elem T)) := by rw [elem_of (e := e)]; exact hT.h
  have h3 := run_slice_lh (P := P) w T ad l c ht k k' p q h0 h1 h2
  have hsz : (sizeOf (P.elem T)).run P w = .ok size w := by rw [elem_of (e := e)]; simp [sizeOf, typeInfo, hi, hs]
  rw [hsz, Result.andThen_ok] at h3
  simp only [execOp, ha.ev hx, Option.map_some, Option.map_none, ha.ev hy, ha.ev hz, run_sliceAt_slice w T _ _ _ _ ht, Sem.run_bind, h3]
  simp [sliced, subAd]
theorem jf_m2 {P : Program} {n : Nat} {E : Env} {C W : World → Prop} {Q : Exit → Act → World → Prop} {l tail : List Oper} {k : Sch} {i d : Nat} {o : Oper} {ι κ : Type} {v : ι → κ → Value} {W' : ι → κ → World → Prop} (hW : ∀ i j w, W' i j w → C w) (ho : nthO l i = o) (hd : o.dst = some d) (hn : d < n) (hg : want l.toArray E o = some true) (hy : Makes2 P n E W o v W') (h : ∀ i j, JF P n Q C (W' i j) l tail k ((d, v i j) :: E)) : JF P n Q C W l tail (.step i false k) E :=
  jf_m (ι := ι × κ) (v := fun i => v i.1 i.2) (W' := fun i => W' i.1 i.2) (fun i => hW i.1 i.2) ho hd hn hg (fun a w ha hw => let ⟨i, j, w', h⟩ := hy a w ha hw; ⟨(i, j), w', h⟩) fun i => h i.1 i.2
end Go.Proofs.YtghomncegjamfaaGreat
