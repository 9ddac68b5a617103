/- The statement of NoteAlone: the arguments are opened, the walk is called, what it hands back is shut. The frame is written by program (law.py), after the shell of the kit. -/
import Derived.Test.YtddpoigfliaklaaGreatRows
import Derived.Test.YtddpoigfliaklaaGreatLf8
import Derived.Test.YtddpoigfliaklaaGreatOp
import Derived.JoinedCond
import Derived.WalkKit
import Derived.ProofKit
import Derived.OpenShut
import Derived.ShutString
import Derived.ChangeOld
import Derived.Below
import Derived.SliceStrings
namespace Go.Proofs.YtddpoigfliaklaaGreat.noteAloneDone
open Go.ChangeShapes Go.WideShapes Go.ChangeAt Go.RowKit
open Go.ChangeMaps (open_string shut_string)
set_option linter.unusedVariables false
theorem own : ownKnob Tryz.prog.godebug = none := by kernel_rfl
theorem laidOut : laidOutB Tryz.prog = true := by kernel_rfl
set_option maxRecDepth 100000 in
theorem chan_bulk {H : Type} {enc : TypeId × Value → H} {W : World} {base : Nat} {spare : Nat → Bool} {held : Bool} {fuel : Nat} {x : DataW H × List MemPlace} {tm : Tm} (h : DataW.trod enc Tryz.prog W base spare held fuel 65 (Tm.c tm) = some x) : tm.chan.size + 1 ≤ Rows.uptoBulk x.1 := by
  obtain ⟨xs, n, _, rfl, _, hlen, hg⟩ := DataW.trod_struct Tryz.underlying65 h
  have hk : Tryz.prog.cellsOf 9 = 1 := by kernel_rfl
  cases xs with
  | nil => simp at hlen
  | cons y ys =>
    have h1 : DataW.trod enc Tryz.prog W base spare held n 9 (((Tm.c tm).drop 0).take (Tryz.prog.cellsOf 9)) = some y := hg 0 _ rfl
    rw [hk] at h1
    obtain ⟨s, e, ey, _⟩ := DataW.trod_string TStr.h h1
    have e1 : [Value.string tm.chan] = [.string s] := e
    have e2 : s = tm.chan := by injection e1 with e1; injection e1 with e1; exact e1.symm
    subst e2
    rw [ey]
    have e3 : tm.chan.data.toList.length = tm.chan.size := by rw [Array.length_toList]; rfl
    show tm.chan.size + 1 ≤ Rows.uptoBulk (DataW.agg (((DataW.lit (.string tm.chan.data.toList) : DataW H), ([] : List MemPlace)) :: ys |>.map (·.1)))
    simp only [List.map_cons, Rows.uptoBulk, Rows.uptoBulkAll]
    omega
set_option maxRecDepth 100000 in
theorem lifted (os : Os) (started : os.Started) (H : Type) (enc : TypeId × Value → H) (F : Stop.Interp) :
    ReturnsInHanded {} Tryz.checked os 7 .any ((Rows.OpenSpec.upto Rows.noteAloneSpec).pre6 enc Tryz.prog Tryz.f7 Rows.noteAloneUptoRow.domain false) (((Rows.OpenSpec.upto Rows.noteAloneSpec).at F).post enc Tryz.prog Tryz.f7 false true false false) := by
  refine returnsInHanded_of_cond (C := Tryz.checked) (s := Rows.OpenSpec.upto Rows.noteAloneSpec) (k := Rows.uptoSmall) rfl own started (by kernel_rfl) Tryz.func7
    (OpenSpec.witness (enc := enc) (C := Tryz.checked) (s := Rows.OpenSpec.upto Rows.noteAloneSpec) (k := Rows.uptoSmall) rfl false ⟨#[], #[.agg #[.string ⟨#[]⟩, .string ⟨#[]⟩, .string ⟨#[]⟩, .int .u64 0, .int .i64 0], .agg #[.int .u64 0, .string ⟨#[]⟩, .string ⟨#[]⟩, .slice none 0 0], .int .u64 0], []⟩ 8 (by kernel_rfl) (by kernel_rfl) (by kernel_rfl)
      (x := ([.agg [.lit (.string []), .lit (.string []), .lit (.string []), .lit (.int .u64 0), .lit (.int .i64 0)], .agg [.lit (.int .u64 0), .lit (.string []), .lit (.string []), .nil], .lit (.int .u64 0)], [], [])) (by kernel_rfl) rfl (by kernel_rfl)) ?_
  intro W base args ds gs before hval0 hW _ hk _
  have hval : ∀ (j : Nat) t v, Tryz.f7.params[j]? = some t → args[j]? = some v → Value.okWide Tryz.prog W .any base t v := hval0
  have hW' := hW
  obtain ⟨p, q, hA0, hV, rfl, hfz, hnd⟩ := hW
  have hA : DataW.TrodAll enc Tryz.prog W 0 (fun _ => true) true Tryz.f7.params.toList args.toList ds p := hA0
  rw [Tryz.params7] at hA hval
  obtain ⟨v0, vs0, d0, ds0, p0, q0, hargs, rfl, rfl, h0, r0⟩ := trodAll_cons hA
  obtain ⟨v1, vs1, d1, ds1, p1, q1, rfl, rfl, rfl, h1, r1⟩ := trodAll_cons r0
  obtain ⟨v2, vs2, d2, ds2, p2, q2, rfl, rfl, rfl, h2, r2⟩ := trodAll_cons r1
  obtain ⟨rfl, rfl, rfl⟩ := trodAll_nil r2
  obtain rfl : args = #[v0, v1, v2] := by cases args; simp_all
  obtain ⟨rfl, rfl⟩ := trodVars_none hV
  have k0 := h0
  have lt0 : ∀ x ∈ p0, x.block < W.heap.size := by obtain ⟨m, hm⟩ := k0; exact DataW.trod_lt m _ _ _ hm
  obtain ⟨us0, fu0, rfl, hu0⟩ := open_agg Tryz.underlying65 (hval 0 65 v0 rfl rfl) h0
  obtain ⟨t0x, rfl, f0x⟩ := op_tm hu0
  have k1 := h1
  have lt1 : ∀ x ∈ p1, x.block < W.heap.size := by obtain ⟨m, hm⟩ := k1; exact DataW.trod_lt m _ _ _ hm
  obtain ⟨us1, fu1, rfl, hu1⟩ := open_agg Tryz.underlying46 (hval 1 46 v1 rfl rfl) h1
  obtain ⟨p1x, a1x, c1x, rfl, f1x, x1x⟩ := op_pf hu1
  obtain ⟨a2, rfl, rfl, rfl, w2⟩ := open_int Tryz.underlying22 (hval 2 22 v2 rfl rfl) h2
  have hz0 : t0x.chan.size ≤ 1048576 := by
    have h := of_decide_eq_true hk
    simp only [List.append_nil, Rows.uptoBulkAll] at h
    have e := chan_bulk hu0
    simp only at e
    omega
  clear hA0 hval0
  refine (noteAlone_any t0x p1x a1x c1x a2 W f0x f1x x1x (fits_wf w2) hz0).mono fun e W' ⟨he, hch⟩ => ?_
  subst he
  have bel := hch.below
  exact ⟨_, rfl, _, _, _, [], _, [], hW', trodAll_mk1 (shut_bool Tryz.underlying4 _), (trodAll_cons_mk (Below.trod laidOut (by kernel_rfl) (of_decide_eq_true (by kernel_rfl)) k0 bel lt0) (trodAll_cons_mk (Below.trod laidOut (by kernel_rfl) (of_decide_eq_true (by kernel_rfl)) k1 bel lt1) (trodAll_cons_mk (shut_int Tryz.underlying22 w2) trodAll_mk0))), rfl, bel.frame _, fun h => by cases h⟩
theorem proved : Rows.NoteAloneUptoSaid :=
  OpenClaim.holds_of_cond 7 Tryz.f7 rfl rfl rfl rfl rfl rfl rfl ⟨rfl, rfl, rfl, rfl, rfl⟩ rfl rfl rfl rfl rfl (by kernel_rfl) Tryz.func7 (by kernel_rfl)
    (of_decide_eq_true (by kernel_rfl)) (by unfold Func.isWrapper; first | (rw [if_pos (by decide +kernel)]; kernel_rfl) | (rw [if_neg (by decide +kernel)]; exact ⟨rfl, rfl⟩))
    (fun os started H enc _ F => lifted os started H enc F)
end Go.Proofs.YtddpoigfliaklaaGreat.noteAloneDone
