/- The calculus, part four: the operations that make memory, write it, or read what was made. -/
import Derived.Test.YtghomncegjamfaaGreatJc
import Derived.Laws.BytesArg
import Derived.Laws.IdiomStrings
namespace Go.Proofs.YtghomncegjamfaaGreat
open Go.RowKit

/-- Each of the values is a byte. -/
inductive U8s : List Value → List Int → Prop where
  | nil : U8s [] []
  | cons {p : Int} {vs : List Value} {ns : List Int} : U8s vs ns → U8s (.int .u8 p :: vs) (p :: ns)
theorem U8s.eq {vs : List Value} {ns : List Int} (h : U8s vs ns) : vs = ns.map (Value.int .u8) := by
  induction h with
  | nil => rfl
  | cons _ ih => simp [ih]
theorem U8s.map (ns : List Int) : U8s (ns.map (Value.int .u8)) ns := by
  induction ns with
  | nil => exact .nil
  | cons n ns ih => exact .cons ih
/-- A string's bytes, as values. -/
def bytesV (s : ByteArray) : List Value := s.data.toList.map fun b => .int .u8 b.toNat
theorem bytesV_length (s : ByteArray) : (bytesV s).length = s.size := by unfold bytesV; rw [List.length_map, Array.length_toList]; rfl
theorem bytesV_at (s : ByteArray) (i : Nat) (h : i < s.size) : (bytesV s)[i]? = some (.int .u8 (s[i].toNat)) := by
  have h2 : s.data.toList[i]? = some (s.data[i]'h) := by rw [Array.getElem?_toList]; exact Array.getElem?_eq_getElem h
  unfold bytesV
  rw [List.getElem?_map, h2]
  rfl

/-- Parts of a struct, an array, a slice, written one by one. -/
inductive Built (P : Program) (place : Nat → Option (Nat × Nat)) (E : Env) : List Value → List (Nat × Operand) → List Value → Prop where
  | nil {vs : List Value} : Built P place E vs [] vs
  | cell {vs us cs : List Value} {f off : Nat} {x : Operand} {v : Value} {rest : List (Nat × Operand)} : place f = some (off, 1) → ev E x = some v → v.cells = #[v] → PutAt off [v] vs us → Built P place E us rest cs → Built P place E vs ((f, x) :: rest) cs
  | agg {vs us cs ws : List Value} {f off size : Nat} {x : Operand} {rest : List (Nat × Operand)} : place f = some (off, size) → ev E x = some (.agg ws.toArray) → ws.length = size → PutAt off ws vs us → Built P place E us rest cs → Built P place E vs ((f, x) :: rest) cs

theorem foldl_put {o : Nat} {ws vs us : List Value} (h : PutAt o ws vs us) : ∀ (off i : Nat) (pre : List Value), pre.length + o = off + i →
    (ws.zipIdx i).foldl (fun cs (p : Value × Nat) => cs.setIfInBounds (off + p.2) p.1) (pre ++ vs).toArray = (pre ++ us).toArray := by
  induction h with
  | done => intro off i pre _; rfl
  | @put u v ws vs us _ ih =>
    intro off i pre hp
    rw [List.zipIdx_cons, List.foldl_cons]
    have h1 : (pre ++ v :: vs).toArray.setIfInBounds (off + i) u = ((pre ++ [u]) ++ vs).toArray := by
      apply Array.toList_inj.1
      rw [Array.toList_setIfInBounds]
      simp only [Nat.add_zero] at hp
      rw [← hp]
      simp
    show List.foldl _ ((pre ++ v :: vs).toArray.setIfInBounds (off + i) u) _ = _
    rw [h1, ih off (i + 1) (pre ++ [u]) (by simp; omega)]
    simp
  | @skip o v ws vs us _ ih =>
    intro off i pre hp
    have := ih off i (pre ++ [v]) (by simp; omega)
    simpa using this

theorem Built.fill {P : Program} {place : Nat → Option (Nat × Nat)} {E : Env} {n : Nat} {a : Act} (ha : Holds n E a) {vs cs : List Value} {parts : List (Nat × Operand)} (h : Built P place E vs parts cs) :
    Instr.fill place vs.toArray (parts.map fun p => (p.1, a.eval p.2)) = some cs.toArray := by
  induction h with
  | nil => rfl
  | @cell vs us cs f off x v rest hp hx hv hput _ ih =>
    have he := hput.eq.2
    have hus := foldl_put hput off 0 [] (by simp)
    simp only [List.nil_append] at hus
    have h1 : ¬ (off + 1 > vs.length) := by simp at he; omega
    simp only [List.map_cons, Instr.fill, hp, ha.ev hx, hv]
    rw [if_neg (by simpa using h1)]
    have h2 : (#[v].zipIdx.foldl (fun cs (p : Value × Nat) => cs.setIfInBounds (off + p.2) p.1) vs.toArray) = us.toArray := by
      rw [← hus, ← Array.foldl_toList, Array.toList_zipIdx]
    rw [show (#[v].zipIdx.foldl (fun cs x => match x with | (c, j) => cs.setIfInBounds (off + j) c) vs.toArray) = us.toArray from h2]
    exact ih
  | @agg vs us cs ws f off size x rest hp hx hl hput _ ih =>
    have he := hput.eq.2
    have hus := foldl_put hput off 0 [] (by simp)
    simp only [List.nil_append] at hus
    have h1 : ¬ (off + size > vs.length) := by omega
    simp only [List.map_cons, Instr.fill, hp, ha.ev hx]
    rw [if_neg (by show ¬ ((decide (ws.toArray.size ≠ size) || decide (off + ws.toArray.size > vs.toArray.size)) = true); simp [hl]; omega)]
    have h2 : (ws.toArray.zipIdx.foldl (fun cs (p : Value × Nat) => cs.setIfInBounds (off + p.2) p.1) vs.toArray) = us.toArray := by
      rw [← hus, ← Array.foldl_toList, Array.toList_zipIdx]
    rw [show ((Value.agg ws.toArray).cells.zipIdx.foldl (fun cs x => match x with | (c, j) => cs.setIfInBounds (off + j) c) vs.toArray) = us.toArray from h2]
    exact ih

/-- Where a struct's fields lie. -/
class TPlaces (P : Program) (t : Nat) (pl : outParam (List (Nat × Nat))) (zs : outParam (List Value)) : Prop where
  h : ∀ w, (zeroValue t).run P w = .ok (.agg zs.toArray) w ∧ ∃ fs, P.underlying t = some (.struct fs) ∧ (fs.mapM fun f => do pure (f.offset, ← sizeOf f.type) : Sem (Array (Nat × Nat))).run P w = .ok pl.toArray w

section
variable {P : Program} {n : Nat} {E : Env} {W : World → Prop} {Q : Exit → Act → World → Prop}
variable {d : Option Tmp} {ty T T' : Nat} {pos : String} {af : Array Edge} {g : Option (Nat × Bool)} {x y z : Operand} {v u : Value} {k k' : IntKind} {p q : Int} {s t : ByteArray}
variable {w0 : World} {S : List Nat} {H H1 H2 : List HA}

theorem y_build {pl : List (Nat × Nat)} {zs cs : List Value} {parts : Array (Nat × Operand)} [hT : TPlaces P T pl zs] (h : Built P (pl[·]?) E zs parts.toList cs) : Yields P n E W ⟨d, .build T parts, ty, pos, af, g⟩ (.agg cs.toArray) := fun a w ha _ => by
  obtain ⟨hz, fs, h1, h2⟩ := hT.h w
  have hf := h.fill ha
  have hp : (parts.map fun (i, x) => (i, a.eval x)).toList = parts.toList.map fun p => (p.1, a.eval p.2) := by simp
  simp only [execOp, Instr.build, Sem.run_bind, hz, Result.andThen_ok, run_underlying h1, h2, Value.cells, hp]
  have hf' : Instr.fill (pl.toArray[·]?) zs.toArray (parts.toList.map fun p => (p.1, a.eval p.2)) = some cs.toArray := by simpa using hf
  rw [hf']
  rfl
theorem y_buildArr {m e size bytes bytes2 : Nat} {zs ez cs : List Value} {parts : Array (Nat × Operand)} [hT : TArr P T m e] [hI : TInfo P T (m * size) bytes zs] [hJ : TInfo P e size bytes2 ez] (h : Built P (fun i => some (i * size, size)) E zs parts.toList cs) : Yields P n E W ⟨d, .build T parts, ty, pos, af, g⟩ (.agg cs.toArray) := fun a w ha _ => by
  obtain ⟨i, zv, hi, hs, hb, hz, hzc, _⟩ := hI.h
  obtain ⟨i', zv', hi', hs', _⟩ := hJ.h
  have hf := h.fill ha
  have hp : (parts.map fun (i, x) => (i, a.eval x)).toList = parts.toList.map fun p => (p.1, a.eval p.2) := by simp
  simp only [execOp, Instr.build, Sem.run_bind, zeroValue, typeInfo, run_program, hi, hz, Result.andThen_ok, run_underlying hT.h, sizeOf, hi', hs', hzc, hp, Sem.run_pure, hf]
  
theorem m_alloc {size bytes : Nat} {zs : List Value} [hI : TInfo P T size bytes zs] : Makes P n E (Hp w0 S H) ⟨d, .alloc T, ty, pos, af, g⟩ (fun b => .pointer (some ⟨b, 0, none⟩)) (fun b => Hp w0 S (.cells b zs :: H)) := fun a w ha hw => by
  obtain ⟨i, zv, hi, hs, hb, hz, hzc, _⟩ := hI.h
  refine ⟨w.heap.size, w.alloc (.cells zs.toArray T), ?_, hw.new (Ch.alloc w _) (Cells.new w zs _ _ rfl) (fun k hk => by cases hk; exact Nat.le_refl _)⟩
  simp [execOp, Instr.alloc, zeroValue, typeInfo, hi, hz, newVar, newRow, hzc]
theorem m_box {vs : List Value} (hx : ev E x = some v) (hv : v.cells = vs.toArray) : Makes P n E (Hp w0 S H) ⟨d, .box T x, ty, pos, af, g⟩ (fun b => .pointer (some ⟨b, 0, none⟩)) (fun b => Hp w0 S (.cells b vs :: H)) := fun a w ha hw => by
  refine ⟨w.heap.size, w.alloc (.cells vs.toArray T), ?_, hw.new (Ch.alloc w _) (Cells.new w vs _ _ rfl) (fun k hk => by cases hk; exact Nat.le_refl _)⟩
  simp [execOp, Instr.box, ha.ev hx, newVar, newRow, hv]

/-! slices -/
theorem m_buildSlice {e size bytes len : Nat} {ez cs : List Value} {parts : Array (Nat × Operand)} [hT : TSlice P T e] [hI : TInfo P e size bytes ez] (hlen : len * size ≤ 16777216)
    (h : Built P (fun i => some (i * size, size)) E ((List.replicate len ez).flatten) parts.toList cs) :
    Makes P n E (Hp w0 S H) ⟨d, .buildSlice T len parts, ty, pos, af, g⟩ (fun b => .slice (some ⟨b, 0, none⟩) len len) (fun b => Hp w0 S (.row (some ⟨b, 0, none⟩) len len e size cs :: H)) := fun a w ha hw => by
  obtain ⟨i, zv, hi, hs, hb, hz, hzc, hzl, hpos⟩ := hI.h
  have hf := h.fill ha
  have hp : (parts.map fun (i, x) => (i, a.eval x)).toList = parts.toList.map fun p => (p.1, a.eval p.2) := by simp
  have hcl : cs.length = len * size := by
    have : ∀ {vs us : List Value} {parts : List (Nat × Operand)}, Built P (fun i => some (i * size, size)) E vs parts us → us.length = vs.length := by
      intro vs us parts hb
      induction hb with
      | nil => rfl
      | cell _ _ _ hput _ ih => rw [ih]; have := hput.eq; rw [this.1]; simp at this ⊢; omega
      | agg _ _ _ hput _ ih => rw [ih]; have := hput.eq; rw [this.1]; simp at this ⊢; omega
    rw [this h]
    simp [hzl]
  have hzero : ((Array.range (len * size)).map fun i => ez.toArray[i % ez.toArray.size]!) = ((List.replicate len ez).flatten).toArray := by
    apply Array.toList_inj.1
    apply List.ext_getElem?
    intro j
    have hgen : ∀ (m j : Nat), ((List.replicate m ez).flatten)[j]? = if j < m * size then ez[j % size]? else none := by
      intro m
      induction m with
      | zero => intro j; simp
      | succ m ih =>
        intro j
        rw [List.replicate_succ, List.flatten_cons, List.getElem?_append, hzl, ih]
        by_cases h1 : j < size
        · rw [if_pos h1, Nat.mod_eq_of_lt h1, if_pos (by rw [Nat.succ_mul]; omega)]
        · rw [if_neg h1, Nat.succ_mul, ← Nat.mod_eq_sub_mod (by omega)]
          by_cases h2 : j - size < m * size
          · rw [if_pos h2, if_pos (by omega)]
          · rw [if_neg h2, if_neg (by omega)]
    rw [hgen]
    by_cases hj : j < len * size
    · have hm : j % size < ez.length := by rw [hzl]; exact Nat.mod_lt _ hpos
      simp [hj, hzl]
      rw [List.getElem?_eq_getElem hm]; rfl
    · simp [hj]
  refine ⟨w.heap.size, w.alloc (.cells cs.toArray e), ?_, hw.new (Ch.alloc w _) ?_ (fun k hk => by cases hk; exact Nat.le_refl _)⟩
  · have hsz : (sizeOf e).run P w = .ok size w := by simp [sizeOf, typeInfo, hi, hs]
    have hlim : ¬ len * size > 2 ^ 24 := by omega
    have hzv : (zeroValue e).run P w = .ok zv w := by simp [zeroValue, typeInfo, hi, hz]
    by_cases h0 : len * size = 0
    · have hz2 : ((Array.range (len * size)).map fun i => (#[] : Array Value)[i % (#[] : Array Value).size]!) = ((List.replicate len ez).flatten).toArray := by
        rw [← hzero]; simp [h0]
      have hrun : (Instr.buildSlice T len (parts.map fun (i, x) => (i, a.eval x))).run P w = .ok (.slice (some ⟨w.heap.size, 0, none⟩) len len) (w.alloc (.cells cs.toArray e)) := by
        unfold Instr.buildSlice
        rw [Sem.run_bind, run_underlying hT.h, Result.andThen_ok]
        dsimp only
        rw [Sem.run_bind, hsz, Result.andThen_ok, if_neg hlim, if_pos h0]
        dsimp only [bind, pure, Sem.bind]
        rw [hz2, hp, hf]
        rfl
      simp only [execOp, Sem.run_bind, hrun, Result.andThen_ok, Sem.run_pure]
    · have hz2 : ((Array.range (len * size)).map fun i => zv.cells[i % zv.cells.size]!) = ((List.replicate len ez).flatten).toArray := by
        rw [← hzero, hzc]
      have hrun : (Instr.buildSlice T len (parts.map fun (i, x) => (i, a.eval x))).run P w = .ok (.slice (some ⟨w.heap.size, 0, none⟩) len len) (w.alloc (.cells cs.toArray e)) := by
        unfold Instr.buildSlice
        rw [Sem.run_bind, run_underlying hT.h, Result.andThen_ok]
        dsimp only
        rw [Sem.run_bind, hsz, Result.andThen_ok, if_neg hlim, if_neg h0, Sem.run_bind, hzv, Result.andThen_ok]
        dsimp only [bind, pure, Sem.bind]
        rw [hz2, hp, hf]
        rfl
      simp only [execOp, Sem.run_bind, hrun, Result.andThen_ok, Sem.run_pure]
  · have := World.ownsRow_lit (base := 0) (e := e) (size := size) w cs.toArray len (Nat.zero_le _) (by unfold maxLen; have : len ≤ len * size := Nat.le_mul_of_pos_right _ hpos; omega) (by simpa using hcl)
    exact this
theorem y_str_row {b m cap e : Nat} {vs : List Value} {ns : List Int} [hT : TSlice P T e] [hE : TInt P e .u8] [hS : TStr P T'] (hx : ev E x = some (.slice (some ⟨b, 0, none⟩) m cap)) (hm : HA.row (some ⟨b, 0, none⟩) m cap e 1 vs ∈ H) (hu : U8s vs ns) :
    Yields P n E (Hp w0 S H) ⟨d, .convert T T' x, ty, pos, af, g⟩ (.string (strOfNums ns)) := fun a w ha hw => by
  have hr : w.ownsRow 0 e 1 (.slice (some ⟨b, 0, none⟩) m cap) m vs := hw.get hm
  have hl : ns.length = m := by have := hr.1; rw [hu.eq] at this; simpa using this
  have := run_convert_bytes_arg (P := P) w T e hT.h hE.h b 0 m cap ns hl (fun i hi => by
    rw [Nat.zero_add]
    refine row_cell hr ?_
    rw [hu.eq, List.getElem?_map, List.getElem?_eq_getElem (by omega)]
    simp [List.getD, List.getElem?_eq_getElem (show i < ns.length by omega)]) T' hS.h
  simp [execOp, ha.ev hx, this]
/-- A slice that may be nil. -/
theorem y_str_own {ad : Option Addr} {m cap e : Nat} {vs : List Value} {ns : List Int} [hT : TSlice P T e] [hE : TInt P e .u8] [hS : TStr P T'] (hx : ev E x = some (.slice ad m cap)) (hm : HA.row ad m cap e 1 vs ∈ H) (hu : U8s vs ns) :
    Yields P n E (Hp w0 S H) ⟨d, .convert T T' x, ty, pos, af, g⟩ (.string (strOfNums ns)) := fun a w ha hw => by
  have hr : w.ownsRow 0 e 1 (.slice ad m cap) m vs := hw.get hm
  rcases hr.2 with ⟨hv, h0⟩ | ⟨b, c, cur, hv, _⟩
  · cases hv
    have : vs = [] := List.eq_nil_of_length_eq_zero (by simpa [h0] using hr.1)
    have hn : ns = [] := by have := hu.eq; simp_all
    subst hn
    have := run_convert_bytes_nil (P := P) w T e hT.h hE.h 0 0 T' hS.h
    simp [execOp, ha.ev hx, this, strOfNums]
    rfl
  · cases hv
    exact y_str_row hx hm hu a w ha hw
theorem m_bytes {e : Nat} [hT : TStr P T] [hT' : TSlice P T' e] [hE : TInt P e .u8] (hx : ev E x = some (.string s)) :
    Makes3 P n E (Hp w0 S H) ⟨d, .convert T T' x, ty, pos, af, g⟩ (fun b cap _ => .slice (some ⟨b, 0, none⟩) s.size cap) (fun b _ sp => Hp w0 S (.cells b (bytesV s ++ sp) :: H)) := fun a w ha hw => by
  have hr := run_bytes_of_string (P := P) w T T' e s hT.h hT'.h hE.h
  have hrun : (execOp a.eval ⟨d, .convert T T' x, ty, pos, af, g⟩).run P w = .ok (.value (.slice (some ⟨w.heap.size, 0, none⟩) s.size (grownCap w s.size 0 e)))
      (w.drew.alloc (.cells (bytesRow s (grownCap w s.size 0 e)) e ((bytesRow s (grownCap w s.size 0 e)).size, (bytesRow s (grownCap w s.size 0 e)).size + 1))) := by
    simp only [execOp, ha.ev hx, Sem.run_bind, hr, Result.andThen_ok, Sem.run_pure]
  refine ⟨w.heap.size, grownCap w s.size 0 e, List.replicate (grownCap w s.size 0 e - s.size) (.int .u8 0), _, hrun, ?_⟩
  refine hw.new ((Ch.refl [] w).drew.then (Ch.alloc w.drew _)) ?_ (fun k hk => by cases hk; exact Nat.le_refl _)
  have hbr : (bytesRow s (grownCap w s.size 0 e)).toList = bytesV s ++ List.replicate (grownCap w s.size 0 e - s.size) (.int .u8 0) := by simp [bytesRow, bytesV]
  refine ⟨e, ((bytesRow s (grownCap w s.size 0 e)).size, (bytesRow s (grownCap w s.size 0 e)).size + 1), ?_, ?_⟩
  · show (w.drew.alloc _).heap[w.drew.heap.size]? = _
    rw [heap_alloc_new w.drew]
    rw [← hbr]
  · intro off ho
    have : off < (bytesRow s (grownCap w s.size 0 e)).size := by rw [← Array.length_toList, hbr]; exact ho
    simp
    omega
theorem m_make {e size bytes m : Nat} {zs : List Value} [hT : TSlice P T e] [hI : TInfo P e size bytes zs] (hx : ev E x = some (.int k (m : Int))) (hy : ev E y = some (.int k' (m : Int))) (hb : bytes * m ≤ 281474976710656) (h63 : m ≤ 9223372036854775807) :
    Makes P n E (Hp w0 S H) ⟨d, .makeSlice T x y, ty, pos, af, g⟩ (fun b => .slice (some ⟨b, 0, none⟩) m m) (fun b => Hp w0 S (.row (some ⟨b, 0, none⟩) m m e size (madeCells zs.toArray (m * size)).toList :: H)) := fun a w ha hw => by
  obtain ⟨i, zv, hi, hs, hbt, hz, hzc, hzl, hpos⟩ := hI.h
  obtain ⟨w', hr, hown, hgr⟩ := run_make_full (P := P) w 0 T e i zv size hT.h hi hz hs k k' m (by rw [hbt]; exact hb) (by unfold maxLen; omega) (Nat.zero_le _)
  refine ⟨w.heap.size, w', by simp [execOp, ha.ev hx, ha.ev hy, hr], hw.new (by simpa using Ch.of_grown hgr) (by rw [← hzc]; exact hown) (fun k hk => by cases hk; exact Nat.le_refl _)⟩

theorem append_block {w w' : World} {l m cap c e : Nat} {ad : Option Addr} {i : TypeInfo} {zv v' : Value} {xs news : List Value} {src : Addr} (hT : P.underlying T = some (.slice e)) (hi : P.info? e = some i) (hz : i.zero = some zv)
    (hr : w.ownsRow 0 e i.size (.slice ad l cap) l xs) (hl : news.length = m * i.size) (hn : ∀ j u, news[j]? = some u → w.cell? (src.add j) = some u) (h1 : ∀ u ∈ news, u.oneCell' = true) (hb : (l + m) * i.bytes ≤ 140737488355328) (h63 : l + m ≤ 9223372036854775807)
    (hrun : (Builtin.append_ #[T, T] ty #[.slice ad l cap, .slice (some src) m c]).run P w = .ok v' w') : ∀ k, v'.ownBlock = some k → (Value.slice ad l cap).ownBlock = some k ∨ w.heap.size ≤ k := by
  intro k hk
  rcases hr.2 with ⟨hv, h0⟩ | ⟨b, cc, cur, hv, _⟩
  · cases hv
    by_cases hm : m = 0
    · subst hm
      have : news = [] := List.eq_nil_of_length_eq_zero (by simpa using hl)
      subst this
      have hrun2 : (Builtin.append_ #[T, T] ty #[.slice none 0 0, .slice (some src) 0 c]).run P w = .ok (.slice none 0 0) w := by
        simp [Builtin.append_, run_underlying hT, sizeOf, typeInfo, hi, Builtin.lenOf, Builtin.firstCells, loadCells, loadCellsFrom]
      rw [hrun2] at hrun
      cases hrun
      simp [Value.ownBlock] at hk
    · have := run_append_nil (P := P) w T ty e i zv hT hi hz src m c news hl hn (by omega) (by omega) (by have hb' := hb; simp only [Nat.zero_add] at hb'; omega)
      rw [this] at hrun
      cases hrun
      simp [Value.ownBlock] at hk
      exact .inr (by omega)
  · cases hv
    by_cases hroom : l + m ≤ cap
    · obtain ⟨w2, h2, _⟩ := run_append_fits (P := P) w 0 T ty e i i.size hT hi rfl b l cap xs hr src m c news hl hn h1 hroom
      rw [h2] at hrun
      cases hrun
      exact .inl (by simpa [Value.ownBlock] using hk)
    · have := run_append_grow (P := P) w T ty e i zv hT hi hz ⟨b, 0, none⟩ l cap xs hr.1 (hr.cells (g := b) rfl) src m c news hl hn (by omega) (by omega) (growslice_fits (by omega) hb)
      rw [this] at hrun
      cases hrun
      simp [Value.ownBlock] at hk
      exact .inr (by omega)
theorem foot_row (ad : Option Addr) (l cap e size : Nat) (xs : List Value) : HA.foot (.row ad l cap e size xs) = (Value.slice ad l cap).ownBlock := by
  cases ad <;> rfl

/-- 'append(s, xs...)', s nil or the call's own. -/
theorem m_append_of {ad : Option Addr} {l m cap c e size bytes : Nat} {xs news zs : List Value} {src : Addr} [hT : TSlice P T e] [hI : TInfo P e size bytes zs] (hx : ev E x = some (.slice ad l cap)) (hy : ev E y = some (.slice (some src) m c))
    (hd : Del (.row ad l cap e size xs) H H1) (hl : news.length = m * size) (hn : ∀ w, Hp w0 S H w → ∀ j u, news[j]? = some u → w.cell? (src.add j) = some u) (h1 : news.all Value.oneCell' = true) (hb : (l + m) * bytes ≤ 140737488355328) (h63 : l + m ≤ 9223372036854775807) :
    Makes2 P n E (Hp w0 S H) ⟨d, .call { callee := .builtin .append, args := #[x, y], argTypes := #[T, T] }, ty, pos, af, g⟩ (fun ad' cap' => .slice ad' (l + m) cap') (fun ad' cap' => Hp w0 S (.row ad' (l + m) cap' e size (xs ++ news) :: H1)) := fun a w ha hw => by
  obtain ⟨i, zv, hi, hs, hbt, hz, hzc, hzl, hpos⟩ := hI.h
  subst hs; subst hbt
  have hp := hw.perm hd.perm
  have hr : w.ownsRow 0 e i.size (.slice ad l cap) l xs := hp.get (A := .row ad l cap e i.size xs) (by simp)
  have h1' : ∀ u ∈ news, u.oneCell' = true := fun u hu => List.all_eq_true.1 h1 u hu
  obtain ⟨v', w', hrun, hown', hgr, _⟩ := run_append_own (P := P) w 0 T ty e i zv i.size i.bytes hT.h hi hz rfl rfl (by rw [hzc]; simpa using hzl) hpos _ l xs hr src m c news hl (hn w hw) h1' (by unfold maxLen; omega) hb (Nat.zero_le _)
  have hblk := append_block hT.h hi hz hr hl (hn w hw) h1' hb h63 hrun
  obtain ⟨ad', cap', hv'⟩ : ∃ ad' cap', v' = .slice ad' (l + m) cap' := by
    rcases hown'.2 with ⟨hv, h0⟩ | ⟨b, cc, cur, hv, _⟩
    · exact ⟨none, 0, by rw [hv, h0]⟩
    · exact ⟨_, _, hv⟩
  subst hv'
  refine ⟨ad', cap', w', by simp [execOp, resolve, invoke, builtin, ha.ev hx, ha.ev hy, hrun], ?_⟩
  refine hp.upd (A := .row ad l cap e i.size xs) .head (Ch.of_grown hgr) ?_ hown' ?_
  · intro k hk
    rw [foot_row]
    simpa using hk
  · intro k hk
    rw [foot_row] at hk ⊢
    exact hblk k hk
/-- 'append(s, x, y, ..)': the new elements lie in a row of their own, the newest block. -/
theorem m_append {ad : Option Addr} {l m cap c e size bytes b : Nat} {xs news zs : List Value} [hT : TSlice P T e] [hI : TInfo P e size bytes zs] (hx : ev E x = some (.slice ad l cap)) (hy : ev E y = some (.slice (some ⟨b, 0, none⟩) m c))
    (hd : Del (.row ad l cap e size xs) H H1) (hd2 : Del (.row (some ⟨b, 0, none⟩) m c e size news) H1 H2) (h1 : news.all Value.oneCell' = true) (hb : (l + m) * bytes ≤ 140737488355328) (h63 : l + m ≤ 9223372036854775807) :
    Makes2 P n E (Hp w0 S H) ⟨d, .call { callee := .builtin .append, args := #[x, y], argTypes := #[T, T] }, ty, pos, af, g⟩ (fun ad' cap' => .slice ad' (l + m) cap') (fun ad' cap' => Hp w0 S (.row ad' (l + m) cap' e size (xs ++ news) :: H2)) := fun a w ha hw => by
  have hsrc : ∀ w, Hp w0 S H w → w.ownsRow 0 e size (.slice (some ⟨b, 0, none⟩) m c) m news := fun w hw => (hw.del hd).get (A := .row (some ⟨b, 0, none⟩) m c e size news) (hd2.perm.mem_iff.2 (by simp))
  obtain ⟨ad', cap', w', hr, hw'⟩ := m_append_of (P := P) (n := n) (T := T) (d := d) (ty := ty) (pos := pos) (af := af) (g := g) hx hy hd (hsrc w hw).1 (fun w hw j u hj => World.ownsRow.cells (hsrc w hw) (g := b) rfl j u hj) h1 hb h63 a w ha hw
  exact ⟨ad', cap', w', hr, (hw'.perm (List.Perm.cons _ hd2.perm)).perm (List.Perm.swap _ _ _) |>.pop⟩
end
end Go.Proofs.YtghomncegjamfaaGreat
