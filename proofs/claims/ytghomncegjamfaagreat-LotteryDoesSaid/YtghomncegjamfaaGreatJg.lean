/- The calculus, part seven: appending a string or an older row, a part of a slice, a row that is there. -/
import Derived.Test.YtghomncegjamfaaGreatJf
namespace Go.Proofs.YtghomncegjamfaaGreat
open Go.RowKit

section
variable {P : Program}
theorem firstCells_str (s : ByteArray) : Builtin.firstCells 1 s.size (.string s) = pure (bytesV s).toArray := by
  have h1 : s.extract 0 s.size = s := by
    apply ByteArray.ext; rw [ByteArray.data_extract]; exact Array.extract_size
  simp only [Builtin.firstCells, h1, bytesV]
  congr 1
  apply Array.toList_inj.1
  simp
theorem run_append_str (w : World) (base : Nat) (t u ty e : TypeId) (i : TypeInfo) (z : Value) (bytes : Nat) (ht : P.underlying t = some (.slice e)) (hu : P.underlying u = some .string) (hi : P.info? e = some i) (hz : i.zero = some z)
    (hsize : i.size = 1) (hby : i.bytes = bytes) (hzs : z.cells.size = 1)
    (v : Value) (n : Nat) (xs : List Value) (hown : w.ownsRow base e 1 v n xs) (s : ByteArray)
    (h63 : n + s.size ≤ maxLen) (hbytes : (n + s.size) * bytes ≤ 140737488355328) (hbase : base ≤ w.heap.size) :
    ∃ v' w', (Builtin.append_ #[t, u] ty #[v, .string s]).run P w = .ok v' w' ∧ w'.ownsRow base e 1 v' (n + s.size) (xs ++ bytesV s) ∧ w.grownBy w' v.ownBlock ∧
      (∀ k, v'.ownBlock = some k → v.ownBlock = some k ∨ w.heap.size ≤ k) := by
  subst hby
  have hsmall : n + s.size ≤ 9223372036854775807 := by simp only [maxLen] at h63; omega
  have hl := bytesV_length s
  have hlen : (xs ++ bytesV s).length = (n + s.size) * 1 := by rw [List.length_append, hown.1, hl, Nat.add_mul]; omega
  have hf := firstCells_str s
  have grown : ∀ (old : Nat), old < n + s.size → ∀ (row : Option Nat),
      (w.drew.alloc (.cells (xs.toArray ++ (bytesV s).toArray ++ Builtin.zeroCells z.cells (grownCap w (n + s.size) old e - (n + s.size))) e)).ownsRow base e 1
        (.slice (some ⟨w.heap.size, 0, none⟩) (n + s.size) (grownCap w (n + s.size) old e)) (n + s.size) (xs ++ bytesV s) ∧
      w.grownBy (w.drew.alloc (.cells (xs.toArray ++ (bytesV s).toArray ++ Builtin.zeroCells z.cells (grownCap w (n + s.size) old e - (n + s.size))) e)) row := by
    intro old ho row
    have hge := grownCap_ge w (n + s.size) old e
    have hcm : grownCap w (n + s.size) old e ≤ maxLen := grownCap_le_maxLen w (n + s.size) old e h63
    refine ⟨⟨hlen, .inr ⟨w.heap.size, _, _, rfl, hbase, heap_alloc_new w.drew _, hge, hcm, ?_, ?_⟩⟩, ⟨rfl, rfl, rfl, by simp, fun k hk _ => heap_alloc_old w.drew _ hk⟩⟩
    · simp only [Array.size_append, List.size_toArray, size_zeroCells, hzs, hown.1, hl]
      omega
    · simp only [Array.toList_append, List.append_assoc]
      rw [← List.append_assoc, ← hlen]
      exact List.take_left
  have hi1 : i.size = 1 := hsize
  rcases hown.2 with ⟨rfl, rfl⟩ | ⟨g, cap, cur, rfl, hbg, hg, hnc, hcm, hcs, htake⟩
  · have hx : xs = [] := List.eq_nil_of_length_eq_zero (by simpa using hown.1)
    subst hx
    by_cases hm : s.size = 0
    · have hn : bytesV s = [] := List.eq_nil_of_length_eq_zero (by rw [hl]; exact hm)
      rw [hn, hm]
      refine ⟨.slice none 0 0, w, ?_, World.ownsRow_nil w base e 1, ⟨rfl, rfl, rfl, Nat.le_refl _, fun _ _ _ => rfl⟩, by simp [Value.ownBlock]⟩
      rw [hn, hm] at hf
      simp [Builtin.append_, run_underlying ht, run_underlying hu, sizeOf, typeInfo, hi, Builtin.lenOf, hm, hi1, hf]
    · have hr := run_append_nil_string (P := P) w t u ty e i z ht hu hi hz s (by omega) (by omega) (by simp only [Nat.zero_add] at hbytes; omega)
      have hgr := grown 0 (by omega) (Value.ownBlock (.slice none 0 0))
      simp only [Nat.zero_add, List.nil_append, Array.empty_append] at hgr ⊢
      have he : (bytesV s).toArray = s.data.map (fun b => Value.int .u8 b.toNat) := by apply Array.toList_inj.1; simp [bytesV]
      rw [he] at hgr
      exact ⟨_, _, hr, hgr.1, hgr.2, fun k hk => .inr (by cases hk; exact Nat.le_refl _)⟩
  · by_cases hroom : n + s.size ≤ cap
    · have hfit : n * 1 + (bytesV s).length ≤ cur.size := by rw [hl, hcs]; omega
      have hst := run_storeCells_at P g (n * 1) e (bytesV s) 0 cur w hg (by simpa using hfit) (fun u hu => by simp only [bytesV, List.mem_map] at hu; obtain ⟨b, _, rfl⟩ := hu; rfl)
      simp only [Nat.add_zero, Nat.mul_one] at hst
      have hr : (Builtin.append_ #[t, u] ty #[.slice (some ⟨g, 0, none⟩) n cap, .string s]).run P w =
          .ok (.slice (some ⟨g, 0, none⟩) (n + s.size) cap) (w.setRow g (cur.toList.take n ++ bytesV s ++ cur.toList.drop (n + (bytesV s).length)).toArray) := by
        simp [Builtin.append_, run_underlying ht, run_underlying hu, sizeOf, typeInfo, hi, Builtin.lenOf, hroom, hf, Addr.add_lit, hst, hi1]
      simp only [Nat.mul_one] at htake hfit hcs hlen
      refine ⟨_, _, hr, ⟨by simpa using hlen, .inr ⟨g, cap, _, rfl, hbg, setRow_heap w g cur _ e _ hg, hroom, hcm, ?_, ?_⟩⟩, ⟨rfl, rfl, rfl, by simp, fun k _ hk => setRow_other w g k _ (fun e => hk (by simp [Value.ownBlock, e]))⟩, fun k hk => .inl hk⟩
      · simp only [List.size_toArray, List.length_append, List.length_take, List.length_drop, Array.length_toList]
        omega
      · simp only [Nat.mul_one]
        rw [htake, ← hlen]
        exact List.take_left
    · have holds : ∀ j u, xs[j]? = some u → w.cell? ((⟨g, 0, none⟩ : Addr).add j) = some u := hown.cells (g := g) rfl
      have hfo := run_firstCells_some (P := P) w.drew 1 n ⟨g, 0, none⟩ n cap xs hown.1 (by simpa using holds)
      have h63' : ¬ (9223372036854775807 < ((n : Int) + (s.size : Int))) := by omega
      have h48' : ¬ (281474976710656 < Builtin.nextslicecap (n + s.size) cap * i.bytes) := by have := growslice_fits (by omega : cap < n + s.size) hbytes; omega
      have hr : (Builtin.append_ #[t, u] ty #[.slice (some ⟨g, 0, none⟩) n cap, .string s]).run P w =
          .ok (.slice (some ⟨w.heap.size, 0, none⟩) (n + s.size) (grownCap w (n + s.size) cap e))
            (w.drew.alloc (.cells (xs.toArray ++ (bytesV s).toArray ++ Builtin.zeroCells z.cells (grownCap w (n + s.size) cap e - (n + s.size))) e)) := by
        simp [Builtin.append_, run_underlying ht, run_underlying hu, sizeOf, typeInfo, zeroValue, hi, hz, Builtin.lenOf, hroom, h63', h48', Question.forced, hf, hfo, newRow, grownCap, hi1]
        congr 2
        apply Array.ext'
        simp [List.append_assoc]
      have hgr := grown cap (by omega) (Value.ownBlock (.slice (some ⟨g, 0, none⟩) n cap))
      exact ⟨_, _, hr, hgr.1, hgr.2, fun k hk => .inr (by cases hk; exact Nat.le_refl _)⟩
end

section
variable {P : Program} {n : Nat} {E : Env} {w0 : World} {S : List Nat} {H H1 : List HA} {d : Option Tmp} {x y z : Operand} {T T' ty : Nat} {pos : String} {af : Array Edge} {g : Option (Nat × Bool)} {s : ByteArray} {k k' : IntKind} {p q : Int}
/-- 'append(b, s..)'. -/
theorem m_append_str {ad : Option Addr} {l cap e bytes : Nat} {xs zs : List Value} [hT : TSlice P T e] [hT' : TStr P T'] [hI : TInfo P e 1 bytes zs] (hx : ev E x = some (.slice ad l cap)) (hy : ev E y = some (.string s))
    (hd : Del (.row ad l cap e 1 xs) H H1) (hb : (l + s.size) * bytes ≤ 140737488355328) (h63 : l + s.size ≤ 9223372036854775807) :
    Makes2 P n E (Hp w0 S H) ⟨d, .call { callee := .builtin .append, args := #[x, y], argTypes := #[T, T'] }, ty, pos, af, g⟩ (fun ad' cap' => .slice ad' (l + s.size) cap') (fun ad' cap' => Hp w0 S (.row ad' (l + s.size) cap' e 1 (xs ++ bytesV s) :: H1)) := fun a w ha hw => by
  obtain ⟨i, zv, hi, hs, hbt, hz, hzc, hzl, hpos⟩ := hI.h
  have hp := hw.perm hd.perm
  have hr : w.ownsRow 0 e 1 (.slice ad l cap) l xs := hp.get (A := .row ad l cap e 1 xs) (by simp)
  have hle : l + s.size ≤ maxLen := h63
  obtain ⟨v', w', hrun, hown', hgr, hblk⟩ := run_append_str (P := P) w 0 T T' ty e i zv bytes hT.h hT'.h hi hz hs hbt (by rw [hzc]; simpa using hzl) _ l xs hr s hle hb (Nat.zero_le _)
  obtain ⟨ad', cap', hv'⟩ : ∃ ad' cap', v' = .slice ad' (l + s.size) cap' := by
    rcases hown'.2 with ⟨hv, h0⟩ | ⟨b, cc, cur, hv, _⟩
    · exact ⟨none, 0, by rw [hv, h0]⟩
    · exact ⟨_, _, hv⟩
  subst hv'
  refine ⟨ad', cap', w', by simp [execOp, resolve, invoke, builtin, ha.ev hx, ha.ev hy, hrun], ?_⟩
  refine hp.upd (A := .row ad l cap e 1 xs) .head (Ch.of_grown hgr) ?_ hown' ?_
  · intro k hk
    rw [foot_row]
    simpa using hk
  · intro k hk
    rw [foot_row] at hk ⊢
    exact hblk k hk
theorem w_store_row_lit {v : Value} {b off m cap e size : Nat} {xs us : List Value} {H' : List HA} [hC : TCell P T] (hx : ev E x = some (.pointer (some ⟨b, off, none⟩))) (hy : ev E y = some v) (hv : v.oneCell' = true) (r : Rep (.row (some ⟨b, 0, none⟩) m cap e size xs) (.row (some ⟨b, 0, none⟩) m cap e size us) H H') (hp : PutAt off [v] xs us) :
    Writes P n E (Hp w0 S H) ⟨d, .store T x y, ty, pos, af, g⟩ (Hp w0 S H') := by
  have he := hp.eq
  have ho : off < xs.length := by have := he.2; simp at this; omega
  have : us = xs.set off v := by rw [he.1, List.set_eq_take_append_cons_drop, if_pos ho]; simp
  subst this
  exact w_store_row hx hy hv ho r
/-- A part of a slice that begins within it. -/
theorem y_part {e b o l c size bytes : Nat} {zs : List Value} [hT : TSlice P T e] [hI : TInfo P e size bytes zs] (hx : ev E x = some (.slice (some ⟨b, o, none⟩) l c)) (hy : ev E y = some (.int k p)) (hz : ev E z = some (.int k' q)) (h0 : 0 ≤ p) (h1 : p ≤ q) (h2 : q ≤ c) (h3 : p < c) {W : World → Prop} :
    Yields P n E W ⟨d, .slice T x (some y) (some z) none, ty, pos, af, g⟩ (.slice (some ⟨b, o + p.toNat * size, none⟩) (q.toNat - p.toNat) (c - p.toNat)) := fun a w ha _ => by
  obtain ⟨i, z, hi, hs, _⟩ := hI.h
  have hel : P.elem T = e := by simp [Program.elem, hT.h]
  have hT2 : P.underlying T = some (.slice (P.elem T)) := by rw [hel]; exact hT.h
  have := run_slice_lh (P := P) w T (some ⟨b, o, none⟩) l c hT2 k k' p q h0 h1 h2
  have hne : ¬ (c = p.toNat) := by omega
  simp [execOp, ha.ev hx, ha.ev hy, ha.ev hz, Instr.sliceAt, run_underlying hT.h, this, sizeOf, typeInfo, hel, hi, hs, sliced, hne, addr_add]
theorem y_part_hi {e b o l c size bytes : Nat} {zs : List Value} [hT : TSlice P T e] [hI : TInfo P e size bytes zs] (hx : ev E x = some (.slice (some ⟨b, o, none⟩) l c)) (hz : ev E z = some (.int k' q)) (h1 : 0 ≤ q) (h2 : q ≤ c) {W : World → Prop} :
    Yields P n E W ⟨d, .slice T x none (some z) none, ty, pos, af, g⟩ (.slice (some ⟨b, o, none⟩) q.toNat c) := fun a w ha _ => by
  obtain ⟨i, z, hi, hs, _⟩ := hI.h
  have hel : P.elem T = e := by simp [Program.elem, hT.h]
  have hT2 : P.underlying T = some (.slice (P.elem T)) := by rw [hel]; exact hT.h
  have := run_slice_h (P := P) w T (some ⟨b, o, none⟩) l c hT2 k' q h1 h2
  simp [execOp, ha.ev hx, ha.ev hz, Instr.sliceAt, run_underlying hT.h, this, sizeOf, typeInfo, hel, hi, hs, sliced, addr_add]
theorem y_part_lo {e b o l c size bytes : Nat} {zs : List Value} [hT : TSlice P T e] [hI : TInfo P e size bytes zs] (hx : ev E x = some (.slice (some ⟨b, o, none⟩) l c)) (hy : ev E y = some (.int k p)) (h1 : 0 ≤ p) (h2 : p ≤ l) (h3 : p < c) {W : World → Prop} :
    Yields P n E W ⟨d, .slice T x (some y) none none, ty, pos, af, g⟩ (.slice (some ⟨b, o + p.toNat * size, none⟩) (l - p.toNat) (c - p.toNat)) := fun a w ha _ => by
  obtain ⟨i, z, hi, hs, _⟩ := hI.h
  have hel : P.elem T = e := by simp [Program.elem, hT.h]
  have hT2 : P.underlying T = some (.slice (P.elem T)) := by rw [hel]; exact hT.h
  have := run_slice_l (P := P) w T (some ⟨b, o, none⟩) l c hT2 k p h1 h2
  have hne : ¬ (c = p.toNat) := by omega
  simp [execOp, ha.ev hx, ha.ev hy, Instr.sliceAt, run_underlying hT.h, this, sizeOf, typeInfo, hel, hi, hs, sliced, hne, addr_add]
end

/-- A row that holds something lies somewhere. -/
theorem row_some {w : World} {ad : Option Addr} {m cap e size : Nat} {xs : List Value} (h : HA.ok w (.row ad m cap e size xs)) (hm : 0 < m) : ∃ b, ad = some ⟨b, 0, none⟩ := by
  rcases (h : w.ownsRow 0 e size (.slice ad m cap) m xs).2 with ⟨_, h0⟩ | ⟨g, c, cur, hv, _⟩
  · omega
  · cases hv; exact ⟨g, rfl⟩
theorem row_cap {w : World} {ad : Option Addr} {m cap e size : Nat} {xs : List Value} (h : HA.ok w (.row ad m cap e size xs)) : m ≤ cap := by
  rcases (h : w.ownsRow 0 e size (.slice ad m cap) m xs).2 with ⟨hv, h0⟩ | ⟨g, c, cur, hv, _, _, hnc, _⟩
  · omega
  · cases hv; exact hnc
theorem row_len {w : World} {ad : Option Addr} {m cap e size : Nat} {xs : List Value} (h : HA.ok w (.row ad m cap e size xs)) : xs.length = m * size := (h : w.ownsRow 0 e size (.slice ad m cap) m xs).1
section
variable {P : Program} {n : Nat} {E : Env} {W : World → Prop} {Q : Exit → Act → World → Prop} {ops : Array Oper} {rest : List Oper} {e : Exit}
theorem js_m2 {tail : List Oper} {C : World → Prop} {rs : List (Oper × Bool)} {o : Oper} {d : Nat} {ι κ : Type} {v : ι → κ → Value} {W' : ι → κ → World → Prop} (hW : ∀ i j w, W' i j w → C w) (hd : o.dst = some d) (hn : d < n) (hg : want ops E o = some true) (hy : Makes2 P n E W o v W') (k : ∀ i j, JS P n Q C (W' i j) ops tail rs ((d, v i j) :: E)) : JS P n Q C W ops tail ((o, false) :: rs) E :=
  js_m (ι := ι × κ) (v := fun i => v i.1 i.2) (W' := fun i => W' i.1 i.2) (fun i => hW i.1 i.2) hd hn hg (fun a w ha hw => let ⟨i, j, w', h⟩ := hy a w ha hw; ⟨(i, j), w', h⟩) fun i => k i.1 i.2
theorem js_m3 {tail : List Oper} {C : World → Prop} {rs : List (Oper × Bool)} {o : Oper} {d : Nat} {ι κ μ : Type} {v : ι → κ → μ → Value} {W' : ι → κ → μ → World → Prop} (hW : ∀ i j l w, W' i j l w → C w) (hd : o.dst = some d) (hn : d < n) (hg : want ops E o = some true) (hy : Makes3 P n E W o v W') (k : ∀ i j l, JS P n Q C (W' i j l) ops tail rs ((d, v i j l) :: E)) : JS P n Q C W ops tail ((o, false) :: rs) E :=
  js_m (ι := ι × κ × μ) (v := fun i => v i.1 i.2.1 i.2.2) (W' := fun i => W' i.1 i.2.1 i.2.2) (fun i => hW i.1 i.2.1 i.2.2) hd hn hg (fun a w ha hw => let ⟨i, j, l, w', h⟩ := hy a w ha hw; ⟨(i, j, l), w', h⟩) fun i => k i.1 i.2.1 i.2.2
theorem js_prop {tail : List Oper} {C : World → Prop} {rs : List (Oper × Bool)} {d : Nat} {p : Prop} [Decidable p] (h1 : p → JS P n Q C W ops tail rs ((d, .bool true) :: E)) (h2 : ¬ p → JS P n Q C W ops tail rs ((d, .bool false) :: E)) : JS P n Q C W ops tail rs ((d, .bool (decide p)) :: E) :=
  js_bool (fun h => h1 (of_decide_eq_true h)) (fun h => h2 (of_decide_eq_false h))
theorem jt_bool {tail : List Oper} {d : Nat} {b : Bool} (h1 : b = true → JT P n Q W ops tail rest ((d, .bool true) :: E)) (h2 : b = false → JT P n Q W ops tail rest ((d, .bool false) :: E)) : JT P n Q W ops tail rest ((d, .bool b) :: E) := by
  cases b
  · exact h2 rfl
  · exact h1 rfl
theorem jt_prop {tail : List Oper} {d : Nat} {p : Prop} [Decidable p] (h1 : p → JT P n Q W ops tail rest ((d, .bool true) :: E)) (h2 : ¬ p → JT P n Q W ops tail rest ((d, .bool false) :: E)) : JT P n Q W ops tail rest ((d, .bool (decide p)) :: E) :=
  jt_bool (fun h => h1 (of_decide_eq_true h)) (fun h => h2 (of_decide_eq_false h))
theorem jl_pure {p : Prop} (hp : ∀ w, W w → p) (h : p → JL P n Q W ops rest E) : JL P n Q W ops rest E := fun a w ha hw => h (hp w hw) a w ha hw
theorem jq_pure {p : Prop} (hp : ∀ w, W w → p) (h : p → JQ n Q W e E) : JQ n Q W e E := fun a w ha hw => h (hp w hw) a w ha hw
theorem js_pure {tail : List Oper} {C : World → Prop} {rs : List (Oper × Bool)} {p : Prop} (hp : ∀ w, W w → p) (h : p → JS P n Q C W ops tail rs E) : JS P n Q C W ops tail rs E := fun a w ha hw => h (hp w hw) a w ha hw
end
end Go.Proofs.YtghomncegjamfaaGreat
