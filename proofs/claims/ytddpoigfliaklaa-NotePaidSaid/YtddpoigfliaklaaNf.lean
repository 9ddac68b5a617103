/- The walks of law 8's helpers: what is cut, and its fixed calls. Written by program (walk.py) out of a table of contracts and invariants. -/
import Derived.Test.YtddpoigfliaklaaNw
import Derived.Test.YtddpoigfliaklaaNp
import Derived.Test.YtddpoigfliaklaaMwos
import Derived.Test.YtddpoigfliaklaaLb
namespace Go.Proofs.Ytddpoigfliaklaa
open Go.RowKit
set_option maxRecDepth 100000
set_option maxHeartbeats 4000000
set_option linter.unusedVariables false
set_option linter.unusedSimpArgs false
def ctTk (t : Tk) : Tk := ⟨cutS t.chan 40, t.serial, t.face, t.wins, t.many, cutS t.commit 40, t.client, cutS t.sig 450⟩
def ctWn (x : Wn) : Wn := ⟨ctTk x.t, cutS x.salt 40, x.drawn⟩
def ctPf (p : Pf) : Pf := ⟨p.amount, cutS p.sig 450, cutS p.token 40, (p.wins.take 6).map ctWn⟩
theorem take_six {α : Type} {l : List α} {i : Nat} (h : i ≤ l.length ∧ i ≤ 6) (h2 : l.length ≤ i ∨ 6 ≤ i) : l.take i = l.take 6 ∧ (l.take 6).length = i := by
  rw [List.length_take]
  rcases h2 with h2 | h2
  · exact ⟨by rw [List.take_of_length_le h2, List.take_of_length_le (by omega)], by omega⟩
  · exact ⟨by rw [show i = 6 by omega], by omega⟩
theorem take_flat {α β : Type} {f : α → β} {c : β → List Value} {l : List α} {i : Nat} (h : i < l.length) : ((l.take (i + 1)).map f).flatMap c = ((l.take i).map f).flatMap c ++ c (f l[i]) := by
  rw [List.take_succ_eq_append_getElem h, List.map_append, List.flatMap_append]
  simp
theorem ctWn_fit {x : Wn} (h : x.Fit) : (ctWn x).Fit := ⟨⟨h.t.serial, h.t.face, h.t.wins, h.t.many, h.t.client⟩, h.drawn⟩
theorem ctPf_fit {p : Pf} (h : p.Fit) : (ctPf p).Fit := ⟨h.amount, fun x hx => by
  obtain ⟨y, hy, rfl⟩ := List.mem_map.1 hx
  exact ctWn_fit (h.wins y (List.mem_of_mem_take hy))⟩
theorem ctPf_len (p : Pf) : (ctPf p).wins.length ≤ 6 := by
  show ((p.wins.take 6).map ctWn).length ≤ 6
  rw [List.length_map, List.length_take]
  omega
/-- A chain lies there, in none of the blocks that may be written. -/
def ChainO (w : World) (S : List Nat) (b : Nat) (seed : ByteArray) (n : Nat) : Prop := b ∉ S ∧ ∃ bl, bl ∉ S ∧ w.cell? ⟨b, 0, none⟩ = some (.slice (some ⟨bl, 0, none⟩) (n + 1) (n + 1)) ∧ Strs w (some ⟨bl, 0, none⟩) (toks seed n)
theorem ChainO.keep {w w1 : World} {S : List Nat} {b n : Nat} {seed : ByteArray} {H : List HA} (h : ChainO w S b seed n) (hw : Hp w S H w1) : ChainO w1 S b seed n :=
  let ⟨h0, bl, h1, h2, h3⟩ := h; ⟨h0, bl, h1, hw.cell h2 h0, hw.strs h3 (fun b o e => by cases e; exact h1)⟩
theorem ChainO.at {w : World} {S : List Nat} {b n : Nat} {seed : ByteArray} (h : ChainO w S b seed n) : ChainAt w b seed n := let ⟨_, bl, _, h2, h3⟩ := h; ⟨bl, h2, h3⟩
theorem ChainAt.apart {w : World} {b n k : Nat} {q : IntKind} {x : Int} {vs : List Value} {seed : ByteArray} (h : ChainAt w b seed n) (hA : HA.ok w (.cells k (.int q x :: vs))) : ChainO w [k] b seed n := by
  obtain ⟨bl, h2, h3⟩ := h
  have h4 : w.cell? ⟨k, 0, none⟩ = some (.int q x) := CellAt.of_cells hA rfl
  refine ⟨fun hm => ?_, bl, fun hm => ?_, h2, h3⟩
  · rw [List.mem_singleton.1 hm, h4] at h2; cases h2
  · have h5 := strs_at' h3 (toks_get seed (Nat.zero_le n))
    rw [List.mem_singleton.1 hm] at h5
    have h6 := h4.symm.trans h5
    cases h6
theorem cq {P : Program} {f : Nat} {a : Array Value} {w : World} {u v : Value} (h : Calls P f a w fun e w' => e = .returned v ∧ Ch [] w w') (e : v = u) : Calls P f a w fun e w' => e = .returned u ∧ Ch [] w w' := e ▸ h
theorem el_nil {w : World} {ad : Option Addr} {n : Nat} : ElAt w ad n [] := fun i cs h => by simp at h
theorem f8K_eq : rootK str8Cli 1 = f8K := by unfold f8K; rfl
theorem f8Sig_eq : signK str8Cli 1 0 (vouch str8Ch 50) = f8Sig := by unfold f8Sig; rfl
theorem f8Sig1_eq : signK str8Cli 1 1 (tkText f8T0) = f8Sig1 := by unfold f8Sig1; rfl
theorem f8A_eq : tokS str8Tks 3 0 = f8A := by unfold f8A; rfl
theorem f8Tok_eq : tokS str8Tks 3 2 = f8Tok := by unfold f8Tok; rfl
def f8E : ByteArray := pfEnc f8P
def f8X : ByteArray := pfEnc f8P ++ str8X
def f8C : Int := cntV f8A f8Tok 3
theorem f8E_eq : pfEnc f8P = f8E := rfl
theorem f8X_eq : f8E ++ ⟨#[120]⟩ = f8X := rfl
theorem f8C_eq : cntV f8A f8Tok 3 = f8C := rfl
theorem pfEnc_size (p : Pf) : (pfEnc p).size ≤ 100000 := by
  unfold pfEnc
  split
  · rename_i h
    have hr := pfRight_iff.1 h
    refine Nat.le_trans (wText_size _) ?_
    have := pfHead_size p
    exact wle0 (wle_wins (by omega))
  · exact Nat.zero_le _
theorem f8E_size : f8E.size ≤ 100000 := pfEnc_size f8P
theorem f8X_size : f8X.size ≤ 100001 := by
  have h : f8X = f8E ++ str8X := rfl
  have h2 := f8E_size
  have h3 : str8X.size = 1 := rfl
  rw [h, ByteArray.size_append]
  omega
theorem f8C_range : 0 ≤ f8C ∧ f8C ≤ 2 := f8_cnt.2
theorem f8Tm_fit : f8Tm.Fit := ⟨(⟨by decide, by decide⟩ : fits .u64 7), (⟨by decide, by decide⟩ : fits .i64 3)⟩
theorem pf0_fit : pf0.Fit := ⟨(⟨by decide, by decide⟩ : fits .u64 0), fun x hx => by cases hx⟩
def f8S : Pf := ⟨51, ⟨#[]⟩, ⟨#[]⟩, []⟩
def f8Tw : Pf := ⟨0, ⟨#[]⟩, ⟨#[]⟩, [f8W, f8W]⟩
def f8Xp : Pf := ⟨0, ⟨#[]⟩, str8X, []⟩
theorem f8S_fit : f8S.Fit := ⟨(⟨by decide, by decide⟩ : fits .u64 51), fun x hx => by cases hx⟩
theorem f8Xp_fit : f8Xp.Fit := ⟨(⟨by decide, by decide⟩ : fits .u64 0), fun x hx => by cases hx⟩
theorem f8W_fit : f8W.Fit := f8_fit.wins f8W (List.mem_singleton.2 rfl)
theorem f8W_fit0 : f8T0.Fit := ⟨(⟨by decide, by decide⟩ : fits .u64 1), (⟨by decide, by decide⟩ : fits .u64 30), (⟨by decide, by decide⟩ : fits .u64 2), (⟨by decide, by decide⟩ : fits .u64 10), (⟨by decide, by decide⟩ : fits .u64 1)⟩
theorem f8Tw_fit : f8Tw.Fit := ⟨(⟨by decide, by decide⟩ : fits .u64 0), fun x hx => by
  have : x = f8W := by simpa [f8Tw] using hx
  rw [this]; exact f8W_fit⟩
def f8M : Wn := ⟨⟨str8Ch, 1, 30, 2, 0, commitS str8S 9, 1, f8Sig1⟩, str8S, 9⟩
theorem f8M_fit : f8M.Fit := ⟨⟨(⟨by decide, by decide⟩ : fits .u64 1), (⟨by decide, by decide⟩ : fits .u64 30), (⟨by decide, by decide⟩ : fits .u64 2), (⟨by decide, by decide⟩ : fits .u64 0), (⟨by decide, by decide⟩ : fits .u64 1)⟩, (⟨by decide, by decide⟩ : fits .u64 9)⟩
theorem v8_worth : Value.tuple #[.int .u64 (worthV f8Tm f8P), .int .i64 (worthE f8Tm f8P)] = .tuple #[.int .u64 (80 + f8C * 7), .int .i64 0] := by rw [f8_worth.1, f8_worth.2]; rfl
theorem v8_none : Value.tuple #[.int .u64 (worthV f8Tm pf0), .int .i64 (worthE f8Tm pf0)] = .tuple #[.int .u64 0, .int .i64 0] := by rw [f8_none.1, f8_none.2]
theorem v8_sig : Value.tuple #[.int .u64 (worthV f8Tm f8S), .int .i64 (worthE f8Tm f8S)] = .tuple #[.int .u64 (worthV f8Tm f8S), .int .i64 10] := by rw [show worthE f8Tm f8S = 10 from f8_sig]
theorem v8_twice : Value.tuple #[.int .u64 (worthV f8Tm f8Tw), .int .i64 (worthE f8Tm f8Tw)] = .tuple #[.int .u64 (worthV f8Tm f8Tw), .int .i64 7] := by rw [show worthE f8Tm f8Tw = 7 from f8_twice]
theorem v8_x : Value.tuple #[.int .u64 (worthV f8Tm f8Xp), .int .i64 (worthE f8Tm f8Xp)] = .tuple #[.int .u64 (worthV f8Tm f8Xp), .int .i64 1] := by rw [show worthE f8Tm f8Xp = 1 from f8_x]
theorem v8_won : Value.tuple #[.int .u64 (wonV f8K f8W), .int .i64 (wonE f8K f8W)] = .tuple #[.int .u64 30, .int .i64 0] := by
  rw [show wonV f8K f8W = 30 by unfold wonV; rw [if_pos f8_won]; rfl, f8_won]
theorem v8_many : Value.tuple #[.int .u64 (wonV f8K f8M), .int .i64 (wonE f8K f8M)] = .tuple #[.int .u64 (wonV f8K f8M), .int .i64 1] := by rw [show wonE f8K f8M = 1 from f8_many]
theorem v8_cnt : Value.tuple #[.int .i64 (cntV f8A f8Tok 3), .int .i64 (cntE f8A f8Tok 3)] = .tuple #[.int .i64 f8C, .int .i64 0] := by rw [f8_cnt.1]; rfl
theorem dec8 (w : World) : Calls Try.prog 44 #[.string f8E] w fun e w' => ∃ pr : Option Addr × Nat, e = .returned (.tuple #[.agg (Pf.c f8P pr.1 pr.2).toArray, .int .i64 0]) ∧ Fresh w w' (.row pr.1 f8P.wins.length pr.2 45 10 (f8P.wins.flatMap Wn.c)) := by
  have h := dec_any f8E w (by have := f8E_size; omega)
  rw [show pfErr f8E r00 = 0 from f8_code.1, show pfDec f8E = f8P from f8_code.2.1] at h
  exact h
theorem dec8x (w : World) : Calls Try.prog 44 #[.string f8X] w fun e w' => ∃ pr : Option Addr × Nat, e = .returned (.tuple #[.agg (Pf.c (pfDec f8X) pr.1 pr.2).toArray, .int .i64 4]) ∧ Fresh w w' (.row pr.1 (pfDec f8X).wins.length pr.2 45 10 ((pfDec f8X).wins.flatMap Wn.c)) := by
  have h := dec_any f8X w (by have := f8X_size; omega)
  rw [show pfErr f8X r00 = 4 from f8_code.2.2] at h
  exact h
attribute [irreducible] f8E f8X f8C

theorem fixed8_any (w : World) :
  Calls Try.prog 17 #[] w fun e w' => e = .returned (.bool true) ∧ Ch [] w w' := by
 have hcr := f8C_range
 refine calls_of (n := 229) (E := []) (W := Hp w [] []) Try.func17 rfl rfl (Nat.le_of_ble_eq_true rfl) rfl (Hp.nil _ _) ?_
 refine jsr ?_
 refine jz ?_
 refine jnt ?_
 refine jsr ?_
 refine jl_ncall rfl (by decide) rfl (goes_func rfl) (fun w1 hw1 => mnew_ok (str8Cli) (1) w1 (by decide) (by decide)) (fun _ => rfl) (by first | (intro A hA; cases hA; done) | intro A hA k hk; simp only [List.mem_cons, List.not_mem_nil, or_false] at hA; first | (rcases hA with rfl | rfl | rfl <;> (cases hk; simp)) | (rcases hA with rfl | rfl <;> (cases hk; simp)) | (subst hA; cases hk; simp)) (fun bk wpk wk hpk hnk hfk => ?_)
 have hallk := hnk.hp (hpk)
 have hkk := hfk [] (hpk.feet_lt (by intro k hk; first | (cases hk; done) | (simp only [List.mem_cons, List.not_mem_nil, or_false] at hk; subst hk; exact ⟨_, mem0, rfl⟩)))
 refine jz ?_
 refine jz ?_
 refine jz ?_
 refine jz ?_
 refine jz ?_
 refine jnt ?_
 refine jsr ?_
 refine jl_kcallH (by intro A hA k hk; simp only [List.mem_cons, List.not_mem_nil, or_false] at hA; first | (rcases hA with rfl | rfl | rfl <;> (cases hk; simp)) | (rcases hA with rfl | rfl <;> (cases hk; simp)) | (subst hA; cases hk; simp)) rfl (by decide) rfl (goes_func rfl) (fun w1 hw1 => new_ok (str8Tks) (3) w1 (by decide) (by decide) (by decide)) (fun bc wc hbc hcc => ?_)
 have hallc := hallk.next hbc (by repeat first | exact ⟨_, mem0, rfl⟩ | exact ⟨_, mem1, rfl⟩ | exact ⟨_, mem2, rfl⟩ | refine List.forall_mem_cons.2 ⟨?_, ?_⟩ | exact fun _ h => absurd h List.not_mem_nil)
 replace hkk := hkk.keep hbc
 have hoc := ChainAt.apart hcc (hbc.get mem0)
 refine jz ?_
 refine jz ?_
 refine jz ?_
 refine jz ?_
 refine jz ?_
 refine jnt ?_
 refine jc_seq ?_
 refine jsr ?_
 refine jz ?_
 refine jy (y_eql_nil rfl rfl) ?_
 refine jl_as (u := .bool false) rfl ?_
 refine jz ?_
 refine jz ?_
 refine jy (y_eql_nil rfl rfl) ?_
 refine jl_as (u := .bool false) rfl ?_
 refine jy (y_pick_false rfl rfl) ?_
 refine jz ?_
 refine jz ?_
 refine jy (y_neq rfl rfl) ?_
 refine jl_prop (fun h51 => ?_) (fun h51 => ?_)
 ·first
  | (exfalso; omega)
  | (
   refine jy (y_pick_false rfl rfl) ?_
   refine jz ?_
   refine jsk ?_
   refine jsk ?_
   refine jy (y_pick_true rfl rfl) ?_
   refine jnt ?_
   refine jc_true rfl ?_
   refine jsr ?_
   refine jz ?_
   refine jnt ?_
   refine jc_ret ?_
   refine jq_then_ret ?_
   refine jq_ret1 rfl rfl ?_
   exact fun _ hw => ⟨rfl, (hallc.next hw (by repeat first | exact ⟨_, mem0, rfl⟩ | exact ⟨_, mem1, rfl⟩ | exact ⟨_, mem2, rfl⟩ | refine List.forall_mem_cons.2 ⟨?_, ?_⟩ | exact fun _ h => absurd h List.not_mem_nil)).ch⟩
   )
 ·first
  | (exfalso; omega)
  | (
   refine jy (y_pick_false rfl rfl) ?_
   refine jz ?_
   refine jz ?_
   refine jy (y_neq rfl rfl) ?_
   refine jl_prop (fun h55 => ?_) (fun h55 => ?_)
   ·first
    | (exfalso; omega)
    | (
     refine jy (y_pick_false rfl rfl) ?_
     refine jnt ?_
     refine jc_true rfl ?_
     refine jsr ?_
     refine jz ?_
     refine jnt ?_
     refine jc_ret ?_
     refine jq_then_ret ?_
     refine jq_ret1 rfl rfl ?_
     exact fun _ hw => ⟨rfl, (hallc.next hw (by repeat first | exact ⟨_, mem0, rfl⟩ | exact ⟨_, mem1, rfl⟩ | exact ⟨_, mem2, rfl⟩ | refine List.forall_mem_cons.2 ⟨?_, ?_⟩ | exact fun _ h => absurd h List.not_mem_nil)).ch⟩
     )
   ·first
    | (exfalso; omega)
    | (
     refine jy (y_pick_false rfl rfl) ?_
     refine jnt ?_
     refine jc_false rfl ?_
     refine jc_skip ?_
     refine jq_then ?_
     refine jsr ?_
     refine jz ?_
     refine jnt ?_
     refine jsr ?_
     refine jz ?_
     refine jz ?_
     refine jpc (goes_func rfl) (fun w1 hw1 => cq (kroot_any _ bk.1 bk.2 str8Cli 1 w1 (hkk.keep hw1)) (congrArg Value.string f8K_eq)) ?_
     refine jz ?_
     refine jpc (goes_func rfl) (fun w1 hw1 => cq (anchor_any bc str8Tks 3 w1 (hoc.keep hw1).at) (congrArg Value.string f8A_eq)) ?_
     refine jy (y_build (Built.cell rfl rfl rfl (by repeat constructor) (Built.cell rfl rfl rfl (by repeat constructor) (Built.cell rfl rfl rfl (by repeat constructor) (Built.cell rfl rfl rfl (by repeat constructor) (Built.cell rfl rfl rfl (by repeat constructor) Built.nil)))))) ?_
     refine jl_m rfl (by decide) rfl (m_alloc) (fun b6 => ?_)
     refine jst ?_
     refine jnt ?_
     refine jsr ?_
     refine jz ?_
     refine jz ?_
     refine jpc (goes_func rfl) (fun w1 hw1 => vouch_any str8Ch 50 w1 (by decide) (by simp only [fits]; decide)) ?_
     refine jl_ucallH rfl (by decide) rfl (goes_func rfl) (by rfl) (fun w1 hw1 => ksign_ok [bk.2] bk.1 bk.2 str8Cli 1 w1 (hkk.keep hw1) (by simp) (by decide) (by decide) (vouch str8Ch 50) (by have := vouch_small str8Ch 50; omega) 0 (by decide) (hw1.get mem1)) (by first | exact rep0 | exact rep1 | exact rep2 | exact rep3 | exact rep4 | exact rep5) ?_
     refine jz ?_
     refine jz ?_
     refine jl_as (u := .string f8Sig) (congrArg Value.string f8Sig_eq) ?_
     refine jz ?_
     refine jz ?_
     refine jz ?_
     refine jnt ?_
     refine jsr ?_
     refine jz ?_
     refine jpc (goes_func rfl) (fun w1 hw1 => token_any bc str8Tks 3 w1 (hoc.keep hw1).at 2) ?_
     refine jz ?_
     refine jz ?_
     refine jl_as (u := .string f8Tok) (congrArg Value.string ((@tok_in str8Tks 3 2 (by decide)).1.trans f8Tok_eq)) ?_
     refine jz ?_
     refine jl_as (u := .int .i64 0) (congrArg (Value.int .i64) (@tok_in str8Tks 3 2 (by decide)).2) ?_
     refine jz ?_
     refine jz ?_
     refine jnt ?_
     refine jsr ?_
     refine jz ?_
     refine jpc (goes_func rfl) (fun w1 hw1 => commit_any str8S 9 w1 (by decide) (by simp only [fits]; decide)) ?_
     refine jy (y_build (Built.cell rfl rfl rfl (by repeat constructor) (Built.cell rfl rfl rfl (by repeat constructor) (Built.cell rfl rfl rfl (by repeat constructor) (Built.cell rfl rfl rfl (by repeat constructor) (Built.cell rfl rfl rfl (by repeat constructor) (Built.cell rfl rfl rfl (by repeat constructor) (Built.cell rfl rfl rfl (by repeat constructor) Built.nil)))))))) ?_
     refine jy (y_build (Built.agg rfl rfl rfl (by repeat constructor) (Built.cell rfl rfl rfl (by repeat constructor) (Built.cell rfl rfl rfl (by repeat constructor) Built.nil)))) ?_
     refine jl_m rfl (by decide) rfl (m_alloc) (fun b11 => ?_)
     refine jst ?_
     refine jnt ?_
     refine jsr ?_
     refine jz ?_
     refine jz ?_
     refine jz ?_
     refine jpc (goes_func rfl) (fun w1 hw1 => text_any f8T0 w1 f8W_fit0 (by decide) (by have := commitS_size str8S 9; show (commitS str8S 9).size ≤ _; omega)) ?_
     refine jl_ucallH rfl (by decide) rfl (goes_func rfl) (by rfl) (fun w1 hw1 => ksign_ok [bk.2] bk.1 bk.2 str8Cli 1 w1 (hkk.keep hw1) (by simp) (by decide) (by decide) (tkText f8T0) (by have := tkText_small f8T0; omega) 1 (by decide) (hw1.get mem2)) (by first | exact rep0 | exact rep1 | exact rep2 | exact rep3 | exact rep4 | exact rep5) ?_
     refine jz ?_
     refine jz ?_
     refine jl_as (u := .string f8Sig1) (congrArg Value.string f8Sig1_eq) ?_
     refine jz ?_
     refine jz ?_
     refine jz ?_
     refine jnt ?_
     refine jsr ?_
     refine jz ?_
     refine jz ?_
     refine jz ?_
     refine jst ?_
     refine jnt ?_
     refine jsr ?_
     refine jz ?_
     refine jz ?_
     refine jz ?_
     refine jl_m rfl (by decide) rfl (m_buildSlice (size := 10) (by decide) (Built.agg rfl rfl rfl (by repeat constructor) Built.nil)) (fun b93 => ?_)
     refine jy (y_build (Built.cell rfl rfl rfl (by repeat constructor) (Built.cell rfl rfl rfl (by repeat constructor) (Built.cell rfl rfl rfl (by repeat constructor) (Built.cell rfl rfl rfl (by repeat constructor) Built.nil))))) ?_
     refine jl_m rfl (by decide) rfl (m_alloc) (fun b14 => ?_)
     refine jst ?_
     refine jnt ?_
     refine jsr ?_
     refine jz ?_
     refine jz ?_
     refine jpc (goes_func rfl) (fun w1 hw1 => cq (worth_any f8Tm f8P (some ⟨b93, 0, none⟩) 1 w1 (ElAt.of_row (l := [f8W]) (c := Wn.c) (fun _ => rfl) rfl (hw1.get mem1)) f8Tm_fit f8_fit (by decide) (by decide)) v8_worth) ?_
     refine jz ?_
     refine jz ?_
     refine jz ?_
     refine jz ?_
     refine jz ?_
     refine jnt ?_
     refine jsr ?_
     refine jz ?_
     refine jy (y_build Built.nil) ?_
     refine jpc (goes_func rfl) (fun w1 hw1 => cq (worth_any f8Tm pf0 none 0 w1 el_nil f8Tm_fit pf0_fit (by decide) (by decide)) v8_none) ?_
     refine jz ?_
     refine jz ?_
     refine jz ?_
     refine jz ?_
     refine jz ?_
     refine jnt ?_
     refine jsr ?_
     refine jz ?_
     refine jy (y_build (Built.cell rfl rfl rfl (by repeat constructor) (Built.cell rfl rfl rfl (by repeat constructor) Built.nil))) ?_
     refine jpc (goes_func rfl) (fun w1 hw1 => cq (worth_any f8Tm f8S none 0 w1 el_nil f8Tm_fit f8S_fit (by decide) (by decide)) v8_sig) ?_
     refine jz ?_
     refine jz ?_
     refine jz ?_
     refine jz ?_
     refine jz ?_
     refine jnt ?_
     refine jsr ?_
     refine jz ?_
     refine jz ?_
     refine jz ?_
     refine jl_m rfl (by decide) rfl (m_buildSlice (size := 10) (by decide) (Built.agg rfl rfl rfl (by repeat constructor) (Built.agg rfl rfl rfl (by repeat constructor) Built.nil))) (fun b117 => ?_)
     refine jy (y_build (Built.cell rfl rfl rfl (by repeat constructor) Built.nil)) ?_
     refine jpc (goes_func rfl) (fun w1 hw1 => cq (worth_any f8Tm f8Tw (some ⟨b117, 0, none⟩) 2 w1 (ElAt.of_row (l := [f8W, f8W]) (c := Wn.c) (fun _ => rfl) rfl (hw1.get mem0)) f8Tm_fit f8Tw_fit (by decide) (by decide)) v8_twice) ?_
     refine jz ?_
     refine jz ?_
     refine jz ?_
     refine jz ?_
     refine jz ?_
     refine jnt ?_
     refine jc_seq ?_
     refine jc_world (fun _ h => h.pop) ?_
     refine jc_region ?_
     refine jz ?_
     refine jy (y_build (Built.cell rfl rfl rfl (by repeat constructor) Built.nil)) ?_
     refine jpc (goes_func rfl) (fun w1 hw1 => cq (worth_any f8Tm f8Xp none 0 w1 el_nil f8Tm_fit f8Xp_fit (by decide) (by decide)) v8_x) ?_
     refine jz ?_
     refine jz ?_
     refine jz ?_
     refine jz ?_
     refine jz ?_
     refine jnt ?_
     refine jc_seq ?_
     refine jc_draw (by kernel_rfl) (fun _ h => h.drew) ?_
     refine juz ?_
     refine ju_call rfl (by decide) rfl (goes_func rfl) (fun w1 hw1 => pcall hw1 (cq (kroot_any _ bk.1 bk.2 str8Cli 1 w1 (hkk.keep hw1)) (congrArg Value.string f8K_eq))) ?_
     refine juz ?_
     refine ju_call rfl (by decide) rfl (goes_func rfl) (fun w1 hw1 => pcall hw1 (cq (won_any f8K f8W w1 f8W_fit (by decide)) v8_won)) ?_
     refine juz ?_
     refine juz ?_
     refine juz ?_
     refine juz ?_
     refine juz ?_
     refine ju_nil ?_
     refine jq_then ?_
     refine jsr ?_
     refine jz ?_
     refine jz ?_
     refine jst ?_
     refine jnt ?_
     refine jc_seq ?_
     refine jc_draw (by kernel_rfl) (fun _ h => h.drew) ?_
     refine juz ?_
     refine ju_call rfl (by decide) rfl (goes_func rfl) (fun w1 hw1 => pcall hw1 (cq (kroot_any _ bk.1 bk.2 str8Cli 1 w1 (hkk.keep hw1)) (congrArg Value.string f8K_eq))) ?_
     refine juz ?_
     refine ju_call rfl (by decide) rfl (goes_func rfl) (fun w1 hw1 => pcall hw1 (cq (won_any f8K f8M w1 f8M_fit (by decide)) v8_many)) ?_
     refine juz ?_
     refine juz ?_
     refine juz ?_
     refine juz ?_
     refine juz ?_
     refine ju_nil ?_
     refine jq_then ?_
     refine jc_seq ?_
     refine jc_world (fun _ h => h.part (F := [.cells b14 (Pf.c f8P (some ⟨b93, 0, none⟩) 1), .row (some ⟨b93, 0, none⟩) 1 1 45 10 (Wn.c f8W), .cells bk.2 [.int .i64 ((2 : Nat) : Int), .int .i64 ((2 ^ 1 : Nat) : Int)]]) (.cons del0 (.cons del0 (.cons del2 .nil)))) ?_
     refine jc_region ?_
     refine jz ?_
     refine jpc (goes_func rfl) (fun w1 hw1 => cq (enc_any f8P (some ⟨b93, 0, none⟩) 1 w1 (ElAt.of_row (l := [f8W]) (c := Wn.c) (fun _ => rfl) rfl (hw1.get mem1)) f8_fit (by decide)) (congrArg Value.string f8E_eq)) ?_
     refine jl_fcall rfl (by decide) rfl (goes_func rfl) (fun w1 hw1 => dec8 w1) (fun pd => ?_)
     refine jz ?_
     refine jz ?_
     refine jz ?_
     refine jl_m rfl (by decide) rfl (m_alloc) (fun b29 => ?_)
     refine jst ?_
     refine jz ?_
     refine jnt ?_
     refine jsr ?_
     refine jz ?_
     refine jpc (goes_func rfl) (fun w1 hw1 => cq (enc_any f8P (some ⟨b93, 0, none⟩) 1 w1 (ElAt.of_row (l := [f8W]) (c := Wn.c) (fun _ => rfl) rfl (hw1.get mem3)) f8_fit (by decide)) (congrArg Value.string f8E_eq)) ?_
     refine jy (y_concat rfl rfl (by first | omega | decide | (have := f8E_size; have h1 : (⟨#[120]⟩ : ByteArray).size = 1 := rfl; omega))) ?_
     refine jl_as (u := .string f8X) (congrArg Value.string f8X_eq) ?_
     refine jl_fcall rfl (by decide) rfl (goes_func rfl) (fun w1 hw1 => dec8x w1) (fun px => ?_)
     refine jz ?_
     refine jz ?_
     refine jz ?_
     refine jl_m rfl (by decide) rfl (m_alloc) (fun b31 => ?_)
     refine jst ?_
     refine jz ?_
     refine jnt ?_
     refine jc_seq ?_
     refine jc_world (fun _ h => h.pop.pop) ?_
     refine jc_region ?_
     refine jz ?_
     refine jpc (goes_func rfl) (fun w1 hw1 => cq (anchor_any bc str8Tks 3 w1 (hoc.keep hw1).at) (congrArg Value.string f8A_eq)) ?_
     refine jz ?_
     refine jpc (goes_func rfl) (fun w1 hw1 => cq (count_any f8A f8Tok 3 w1 (by simp only [fits]; decide)) v8_cnt) ?_
     refine jz ?_
     refine jz ?_
     refine jz ?_
     refine jz ?_
     refine jz ?_
     refine jnt ?_
     refine jsr ?_
     refine jz ?_
     refine jz ?_
     first | refine jy (y_conv_fits rfl (by simp only [fits]; omega)) ?_ | refine jy (y_conv_u64 rfl) ?_
     refine jl_as (u := .int .u64 f8C) rfl ?_
     refine jy (y_mul_u64 rfl rfl) ?_
     refine jy (y_add_u64 rfl rfl) ?_
     refine jl_as (u := .int .u64 (80 + f8C * 7)) (congrArg _ (by omega)) ?_
     refine jy (y_eql rfl rfl) ?_
     refine jl_prop (fun h169 => ?_) (fun h169 => ?_)
     ·first
      | (exfalso; omega)
      | (
       refine jz ?_
       refine jz ?_
       refine jy (y_eql rfl rfl) ?_
       refine jl_prop (fun h172 => ?_) (fun h172 => ?_)
       ·first
        | (exfalso; omega)
        | (
         refine jy (y_pick_true rfl rfl) ?_
         refine jz ?_
         refine jz ?_
         refine jy (y_eql rfl rfl) ?_
         refine jl_prop (fun h176 => ?_) (fun h176 => ?_)
         ·first
          | (exfalso; omega)
          | (
           refine jy (y_pick_true rfl rfl) ?_
           refine jz ?_
           refine jz ?_
           refine jy (y_eql rfl rfl) ?_
           refine jl_prop (fun h180 => ?_) (fun h180 => ?_)
           ·first
            | (exfalso; omega)
            | (
             refine jy (y_pick_true rfl rfl) ?_
             refine jz ?_
             refine jz ?_
             refine jy (y_eql rfl rfl) ?_
             refine jl_prop (fun h184 => ?_) (fun h184 => ?_)
             ·first
              | (exfalso; omega)
              | (
               refine jy (y_pick_true rfl rfl) ?_
               refine jz ?_
               refine jz ?_
               refine jy (y_eql rfl rfl) ?_
               refine jl_prop (fun h188 => ?_) (fun h188 => ?_)
               ·first
                | (exfalso; omega)
                | (
                 refine jy (y_pick_true rfl rfl) ?_
                 refine jz ?_
                 refine jz ?_
                 refine jy (y_eql rfl rfl) ?_
                 refine jl_prop (fun h192 => ?_) (fun h192 => ?_)
                 ·first
                  | (exfalso; omega)
                  | (
                   refine jy (y_pick_true rfl rfl) ?_
                   refine jz ?_
                   refine jz ?_
                   refine jy (y_eql rfl rfl) ?_
                   refine jl_prop (fun h196 => ?_) (fun h196 => ?_)
                   ·first
                    | (exfalso; omega)
                    | (
                     refine jy (y_pick_true rfl rfl) ?_
                     refine jz ?_
                     refine jz ?_
                     refine jy (y_eql rfl rfl) ?_
                     refine jl_prop (fun h200 => ?_) (fun h200 => ?_)
                     ·first
                      | (exfalso; omega)
                      | (
                       refine jy (y_pick_true rfl rfl) ?_
                       refine jz ?_
                       refine jz ?_
                       refine jy (y_eql rfl rfl) ?_
                       refine jl_prop (fun h204 => ?_) (fun h204 => ?_)
                       ·first
                        | (exfalso; omega)
                        | (
                         refine jy (y_pick_true rfl rfl) ?_
                         refine jz ?_
                         refine jz ?_
                         refine jz ?_
                         refine jpc (goes_func rfl) (fun w1 hw1 => cq (same_any f8P f8P (some ⟨b93, 0, none⟩) pd.1 1 pd.2 w1 (ElAt.of_row (l := [f8W]) (c := Wn.c) (fun _ => rfl) rfl (hw1.get mem3)) (ElAt.of_row (l := [f8W]) (c := Wn.c) (fun _ => rfl) rfl (hw1.get mem1)) (by decide) (by decide)) (congrArg Value.bool (decide_eq_true rfl))) ?_
                         refine jy (y_pick_true rfl rfl) ?_
                         refine jz ?_
                         refine jz ?_
                         refine jy (y_eql rfl rfl) ?_
                         refine jl_prop (fun h213 => ?_) (fun h213 => ?_)
                         ·first
                          | (exfalso; omega)
                          | (
                           refine jy (y_pick_true rfl rfl) ?_
                           refine jz ?_
                           refine jz ?_
                           refine jy (y_eql rfl rfl) ?_
                           refine jl_prop (fun h217 => ?_) (fun h217 => ?_)
                           ·first
                            | (exfalso; omega)
                            | (
                             refine jy (y_pick_true rfl rfl) ?_
                             refine jz ?_
                             refine jz ?_
                             refine jpc (goes_func rfl) (fun w1 hw1 => cq (right_any f8P (some ⟨b93, 0, none⟩) 1 w1 (ElAt.of_row (l := [f8W]) (c := Wn.c) (fun _ => rfl) rfl (hw1.get mem3)) (by decide)) (congrArg Value.bool f8_right)) ?_
                             refine jy (y_pick_true rfl rfl) ?_
                             refine jz ?_
                             refine jz ?_
                             refine jpc (goes_func rfl) (fun w1 hw1 => vouch_any str8Ch 1 w1 (by decide) (by simp only [fits]; decide)) ?_
                             refine jy (y_len_str rfl) ?_
                             refine jl_as (u := .int .i64 27) (congrArg (Value.int .i64) (by rw [f8_len]; rfl)) ?_
                             refine jy (y_eql rfl rfl) ?_
                             refine jy (y_pick_true rfl rfl) ?_
                             refine jz ?_
                             refine jnt ?_
                             refine jc_ret ?_
                             refine jq_ret1 rfl rfl ?_
                             exact fun _ hw => ⟨rfl, (hallc.next hw (by repeat first | exact ⟨_, mem0, rfl⟩ | exact ⟨_, mem1, rfl⟩ | exact ⟨_, mem2, rfl⟩ | refine List.forall_mem_cons.2 ⟨?_, ?_⟩ | exact fun _ h => absurd h List.not_mem_nil)).ch⟩
                             )
                           ·first
                            | (exfalso; omega)
                            | (
                             refine jy (y_pick_true rfl rfl) ?_
                             refine jz ?_
                             refine jsk ?_
                             refine jsk ?_
                             refine jy (y_pick_false rfl rfl) ?_
                             refine jz ?_
                             refine jsk ?_
                             refine jsk ?_
                             refine jsk ?_
                             refine jsk ?_
                             refine jy (y_pick_false rfl rfl) ?_
                             refine jz ?_
                             refine jnt ?_
                             refine jc_ret ?_
                             refine jq_ret1 rfl rfl ?_
                             exact fun _ hw => ⟨rfl, (hallc.next hw (by repeat first | exact ⟨_, mem0, rfl⟩ | exact ⟨_, mem1, rfl⟩ | exact ⟨_, mem2, rfl⟩ | refine List.forall_mem_cons.2 ⟨?_, ?_⟩ | exact fun _ h => absurd h List.not_mem_nil)).ch⟩
                             )
                           )
                         ·first
                          | (exfalso; omega)
                          | (
                           refine jy (y_pick_true rfl rfl) ?_
                           refine jz ?_
                           refine jsk ?_
                           refine jsk ?_
                           refine jy (y_pick_false rfl rfl) ?_
                           refine jz ?_
                           refine jsk ?_
                           refine jsk ?_
                           refine jy (y_pick_false rfl rfl) ?_
                           refine jz ?_
                           refine jsk ?_
                           refine jsk ?_
                           refine jsk ?_
                           refine jsk ?_
                           refine jy (y_pick_false rfl rfl) ?_
                           refine jz ?_
                           refine jnt ?_
                           refine jc_ret ?_
                           refine jq_ret1 rfl rfl ?_
                           exact fun _ hw => ⟨rfl, (hallc.next hw (by repeat first | exact ⟨_, mem0, rfl⟩ | exact ⟨_, mem1, rfl⟩ | exact ⟨_, mem2, rfl⟩ | refine List.forall_mem_cons.2 ⟨?_, ?_⟩ | exact fun _ h => absurd h List.not_mem_nil)).ch⟩
                           )
                         )
                       ·first
                        | (exfalso; omega)
                        | (
                         refine jy (y_pick_true rfl rfl) ?_
                         refine jz ?_
                         refine jsk ?_
                         refine jsk ?_
                         refine jsk ?_
                         refine jy (y_pick_false rfl rfl) ?_
                         refine jz ?_
                         refine jsk ?_
                         refine jsk ?_
                         refine jy (y_pick_false rfl rfl) ?_
                         refine jz ?_
                         refine jsk ?_
                         refine jsk ?_
                         refine jy (y_pick_false rfl rfl) ?_
                         refine jz ?_
                         refine jsk ?_
                         refine jsk ?_
                         refine jy (y_pick_false rfl rfl) ?_
                         refine jz ?_
                         refine jsk ?_
                         refine jsk ?_
                         refine jsk ?_
                         refine jsk ?_
                         refine jy (y_pick_false rfl rfl) ?_
                         refine jz ?_
                         refine jnt ?_
                         refine jc_ret ?_
                         refine jq_ret1 rfl rfl ?_
                         exact fun _ hw => ⟨rfl, (hallc.next hw (by repeat first | exact ⟨_, mem0, rfl⟩ | exact ⟨_, mem1, rfl⟩ | exact ⟨_, mem2, rfl⟩ | refine List.forall_mem_cons.2 ⟨?_, ?_⟩ | exact fun _ h => absurd h List.not_mem_nil)).ch⟩
                         )
                       )
                     ·first
                      | (exfalso; omega)
                      | (
                       refine jy (y_pick_true rfl rfl) ?_
                       refine jz ?_
                       refine jsk ?_
                       refine jsk ?_
                       refine jy (y_pick_false rfl rfl) ?_
                       refine jz ?_
                       refine jsk ?_
                       refine jsk ?_
                       refine jsk ?_
                       refine jy (y_pick_false rfl rfl) ?_
                       refine jz ?_
                       refine jsk ?_
                       refine jsk ?_
                       refine jy (y_pick_false rfl rfl) ?_
                       refine jz ?_
                       refine jsk ?_
                       refine jsk ?_
                       refine jy (y_pick_false rfl rfl) ?_
                       refine jz ?_
                       refine jsk ?_
                       refine jsk ?_
                       refine jy (y_pick_false rfl rfl) ?_
                       refine jz ?_
                       refine jsk ?_
                       refine jsk ?_
                       refine jsk ?_
                       refine jsk ?_
                       refine jy (y_pick_false rfl rfl) ?_
                       refine jz ?_
                       refine jnt ?_
                       refine jc_ret ?_
                       refine jq_ret1 rfl rfl ?_
                       exact fun _ hw => ⟨rfl, (hallc.next hw (by repeat first | exact ⟨_, mem0, rfl⟩ | exact ⟨_, mem1, rfl⟩ | exact ⟨_, mem2, rfl⟩ | refine List.forall_mem_cons.2 ⟨?_, ?_⟩ | exact fun _ h => absurd h List.not_mem_nil)).ch⟩
                       )
                     )
                   ·first
                    | (exfalso; omega)
                    | (
                     refine jy (y_pick_true rfl rfl) ?_
                     refine jz ?_
                     refine jsk ?_
                     refine jsk ?_
                     refine jy (y_pick_false rfl rfl) ?_
                     refine jz ?_
                     refine jsk ?_
                     refine jsk ?_
                     refine jy (y_pick_false rfl rfl) ?_
                     refine jz ?_
                     refine jsk ?_
                     refine jsk ?_
                     refine jsk ?_
                     refine jy (y_pick_false rfl rfl) ?_
                     refine jz ?_
                     refine jsk ?_
                     refine jsk ?_
                     refine jy (y_pick_false rfl rfl) ?_
                     refine jz ?_
                     refine jsk ?_
                     refine jsk ?_
                     refine jy (y_pick_false rfl rfl) ?_
                     refine jz ?_
                     refine jsk ?_
                     refine jsk ?_
                     refine jy (y_pick_false rfl rfl) ?_
                     refine jz ?_
                     refine jsk ?_
                     refine jsk ?_
                     refine jsk ?_
                     refine jsk ?_
                     refine jy (y_pick_false rfl rfl) ?_
                     refine jz ?_
                     refine jnt ?_
                     refine jc_ret ?_
                     refine jq_ret1 rfl rfl ?_
                     exact fun _ hw => ⟨rfl, (hallc.next hw (by repeat first | exact ⟨_, mem0, rfl⟩ | exact ⟨_, mem1, rfl⟩ | exact ⟨_, mem2, rfl⟩ | refine List.forall_mem_cons.2 ⟨?_, ?_⟩ | exact fun _ h => absurd h List.not_mem_nil)).ch⟩
                     )
                   )
                 ·first
                  | (exfalso; omega)
                  | (
                   refine jy (y_pick_true rfl rfl) ?_
                   refine jz ?_
                   refine jsk ?_
                   refine jsk ?_
                   refine jy (y_pick_false rfl rfl) ?_
                   refine jz ?_
                   refine jsk ?_
                   refine jsk ?_
                   refine jy (y_pick_false rfl rfl) ?_
                   refine jz ?_
                   refine jsk ?_
                   refine jsk ?_
                   refine jy (y_pick_false rfl rfl) ?_
                   refine jz ?_
                   refine jsk ?_
                   refine jsk ?_
                   refine jsk ?_
                   refine jy (y_pick_false rfl rfl) ?_
                   refine jz ?_
                   refine jsk ?_
                   refine jsk ?_
                   refine jy (y_pick_false rfl rfl) ?_
                   refine jz ?_
                   refine jsk ?_
                   refine jsk ?_
                   refine jy (y_pick_false rfl rfl) ?_
                   refine jz ?_
                   refine jsk ?_
                   refine jsk ?_
                   refine jy (y_pick_false rfl rfl) ?_
                   refine jz ?_
                   refine jsk ?_
                   refine jsk ?_
                   refine jsk ?_
                   refine jsk ?_
                   refine jy (y_pick_false rfl rfl) ?_
                   refine jz ?_
                   refine jnt ?_
                   refine jc_ret ?_
                   refine jq_ret1 rfl rfl ?_
                   exact fun _ hw => ⟨rfl, (hallc.next hw (by repeat first | exact ⟨_, mem0, rfl⟩ | exact ⟨_, mem1, rfl⟩ | exact ⟨_, mem2, rfl⟩ | refine List.forall_mem_cons.2 ⟨?_, ?_⟩ | exact fun _ h => absurd h List.not_mem_nil)).ch⟩
                   )
                 )
               ·first
                | (exfalso; omega)
                | (
                 refine jy (y_pick_true rfl rfl) ?_
                 refine jz ?_
                 refine jsk ?_
                 refine jsk ?_
                 refine jy (y_pick_false rfl rfl) ?_
                 refine jz ?_
                 refine jsk ?_
                 refine jsk ?_
                 refine jy (y_pick_false rfl rfl) ?_
                 refine jz ?_
                 refine jsk ?_
                 refine jsk ?_
                 refine jy (y_pick_false rfl rfl) ?_
                 refine jz ?_
                 refine jsk ?_
                 refine jsk ?_
                 refine jy (y_pick_false rfl rfl) ?_
                 refine jz ?_
                 refine jsk ?_
                 refine jsk ?_
                 refine jsk ?_
                 refine jy (y_pick_false rfl rfl) ?_
                 refine jz ?_
                 refine jsk ?_
                 refine jsk ?_
                 refine jy (y_pick_false rfl rfl) ?_
                 refine jz ?_
                 refine jsk ?_
                 refine jsk ?_
                 refine jy (y_pick_false rfl rfl) ?_
                 refine jz ?_
                 refine jsk ?_
                 refine jsk ?_
                 refine jy (y_pick_false rfl rfl) ?_
                 refine jz ?_
                 refine jsk ?_
                 refine jsk ?_
                 refine jsk ?_
                 refine jsk ?_
                 refine jy (y_pick_false rfl rfl) ?_
                 refine jz ?_
                 refine jnt ?_
                 refine jc_ret ?_
                 refine jq_ret1 rfl rfl ?_
                 exact fun _ hw => ⟨rfl, (hallc.next hw (by repeat first | exact ⟨_, mem0, rfl⟩ | exact ⟨_, mem1, rfl⟩ | exact ⟨_, mem2, rfl⟩ | refine List.forall_mem_cons.2 ⟨?_, ?_⟩ | exact fun _ h => absurd h List.not_mem_nil)).ch⟩
                 )
               )
             ·first
              | (exfalso; omega)
              | (
               refine jy (y_pick_true rfl rfl) ?_
               refine jz ?_
               refine jsk ?_
               refine jsk ?_
               refine jy (y_pick_false rfl rfl) ?_
               refine jz ?_
               refine jsk ?_
               refine jsk ?_
               refine jy (y_pick_false rfl rfl) ?_
               refine jz ?_
               refine jsk ?_
               refine jsk ?_
               refine jy (y_pick_false rfl rfl) ?_
               refine jz ?_
               refine jsk ?_
               refine jsk ?_
               refine jy (y_pick_false rfl rfl) ?_
               refine jz ?_
               refine jsk ?_
               refine jsk ?_
               refine jy (y_pick_false rfl rfl) ?_
               refine jz ?_
               refine jsk ?_
               refine jsk ?_
               refine jsk ?_
               refine jy (y_pick_false rfl rfl) ?_
               refine jz ?_
               refine jsk ?_
               refine jsk ?_
               refine jy (y_pick_false rfl rfl) ?_
               refine jz ?_
               refine jsk ?_
               refine jsk ?_
               refine jy (y_pick_false rfl rfl) ?_
               refine jz ?_
               refine jsk ?_
               refine jsk ?_
               refine jy (y_pick_false rfl rfl) ?_
               refine jz ?_
               refine jsk ?_
               refine jsk ?_
               refine jsk ?_
               refine jsk ?_
               refine jy (y_pick_false rfl rfl) ?_
               refine jz ?_
               refine jnt ?_
               refine jc_ret ?_
               refine jq_ret1 rfl rfl ?_
               exact fun _ hw => ⟨rfl, (hallc.next hw (by repeat first | exact ⟨_, mem0, rfl⟩ | exact ⟨_, mem1, rfl⟩ | exact ⟨_, mem2, rfl⟩ | refine List.forall_mem_cons.2 ⟨?_, ?_⟩ | exact fun _ h => absurd h List.not_mem_nil)).ch⟩
               )
             )
           ·first
            | (exfalso; omega)
            | (
             refine jy (y_pick_true rfl rfl) ?_
             refine jz ?_
             refine jsk ?_
             refine jsk ?_
             refine jy (y_pick_false rfl rfl) ?_
             refine jz ?_
             refine jsk ?_
             refine jsk ?_
             refine jy (y_pick_false rfl rfl) ?_
             refine jz ?_
             refine jsk ?_
             refine jsk ?_
             refine jy (y_pick_false rfl rfl) ?_
             refine jz ?_
             refine jsk ?_
             refine jsk ?_
             refine jy (y_pick_false rfl rfl) ?_
             refine jz ?_
             refine jsk ?_
             refine jsk ?_
             refine jy (y_pick_false rfl rfl) ?_
             refine jz ?_
             refine jsk ?_
             refine jsk ?_
             refine jy (y_pick_false rfl rfl) ?_
             refine jz ?_
             refine jsk ?_
             refine jsk ?_
             refine jsk ?_
             refine jy (y_pick_false rfl rfl) ?_
             refine jz ?_
             refine jsk ?_
             refine jsk ?_
             refine jy (y_pick_false rfl rfl) ?_
             refine jz ?_
             refine jsk ?_
             refine jsk ?_
             refine jy (y_pick_false rfl rfl) ?_
             refine jz ?_
             refine jsk ?_
             refine jsk ?_
             refine jy (y_pick_false rfl rfl) ?_
             refine jz ?_
             refine jsk ?_
             refine jsk ?_
             refine jsk ?_
             refine jsk ?_
             refine jy (y_pick_false rfl rfl) ?_
             refine jz ?_
             refine jnt ?_
             refine jc_ret ?_
             refine jq_ret1 rfl rfl ?_
             exact fun _ hw => ⟨rfl, (hallc.next hw (by repeat first | exact ⟨_, mem0, rfl⟩ | exact ⟨_, mem1, rfl⟩ | exact ⟨_, mem2, rfl⟩ | refine List.forall_mem_cons.2 ⟨?_, ?_⟩ | exact fun _ h => absurd h List.not_mem_nil)).ch⟩
             )
           )
         ·first
          | (exfalso; omega)
          | (
           refine jy (y_pick_true rfl rfl) ?_
           refine jz ?_
           refine jsk ?_
           refine jsk ?_
           refine jy (y_pick_false rfl rfl) ?_
           refine jz ?_
           refine jsk ?_
           refine jsk ?_
           refine jy (y_pick_false rfl rfl) ?_
           refine jz ?_
           refine jsk ?_
           refine jsk ?_
           refine jy (y_pick_false rfl rfl) ?_
           refine jz ?_
           refine jsk ?_
           refine jsk ?_
           refine jy (y_pick_false rfl rfl) ?_
           refine jz ?_
           refine jsk ?_
           refine jsk ?_
           refine jy (y_pick_false rfl rfl) ?_
           refine jz ?_
           refine jsk ?_
           refine jsk ?_
           refine jy (y_pick_false rfl rfl) ?_
           refine jz ?_
           refine jsk ?_
           refine jsk ?_
           refine jy (y_pick_false rfl rfl) ?_
           refine jz ?_
           refine jsk ?_
           refine jsk ?_
           refine jsk ?_
           refine jy (y_pick_false rfl rfl) ?_
           refine jz ?_
           refine jsk ?_
           refine jsk ?_
           refine jy (y_pick_false rfl rfl) ?_
           refine jz ?_
           refine jsk ?_
           refine jsk ?_
           refine jy (y_pick_false rfl rfl) ?_
           refine jz ?_
           refine jsk ?_
           refine jsk ?_
           refine jy (y_pick_false rfl rfl) ?_
           refine jz ?_
           refine jsk ?_
           refine jsk ?_
           refine jsk ?_
           refine jsk ?_
           refine jy (y_pick_false rfl rfl) ?_
           refine jz ?_
           refine jnt ?_
           refine jc_ret ?_
           refine jq_ret1 rfl rfl ?_
           exact fun _ hw => ⟨rfl, (hallc.next hw (by repeat first | exact ⟨_, mem0, rfl⟩ | exact ⟨_, mem1, rfl⟩ | exact ⟨_, mem2, rfl⟩ | refine List.forall_mem_cons.2 ⟨?_, ?_⟩ | exact fun _ h => absurd h List.not_mem_nil)).ch⟩
           )
         )
       ·first
        | (exfalso; omega)
        | (
         refine jy (y_pick_true rfl rfl) ?_
         refine jz ?_
         refine jsk ?_
         refine jsk ?_
         refine jy (y_pick_false rfl rfl) ?_
         refine jz ?_
         refine jsk ?_
         refine jsk ?_
         refine jy (y_pick_false rfl rfl) ?_
         refine jz ?_
         refine jsk ?_
         refine jsk ?_
         refine jy (y_pick_false rfl rfl) ?_
         refine jz ?_
         refine jsk ?_
         refine jsk ?_
         refine jy (y_pick_false rfl rfl) ?_
         refine jz ?_
         refine jsk ?_
         refine jsk ?_
         refine jy (y_pick_false rfl rfl) ?_
         refine jz ?_
         refine jsk ?_
         refine jsk ?_
         refine jy (y_pick_false rfl rfl) ?_
         refine jz ?_
         refine jsk ?_
         refine jsk ?_
         refine jy (y_pick_false rfl rfl) ?_
         refine jz ?_
         refine jsk ?_
         refine jsk ?_
         refine jy (y_pick_false rfl rfl) ?_
         refine jz ?_
         refine jsk ?_
         refine jsk ?_
         refine jsk ?_
         refine jy (y_pick_false rfl rfl) ?_
         refine jz ?_
         refine jsk ?_
         refine jsk ?_
         refine jy (y_pick_false rfl rfl) ?_
         refine jz ?_
         refine jsk ?_
         refine jsk ?_
         refine jy (y_pick_false rfl rfl) ?_
         refine jz ?_
         refine jsk ?_
         refine jsk ?_
         refine jy (y_pick_false rfl rfl) ?_
         refine jz ?_
         refine jsk ?_
         refine jsk ?_
         refine jsk ?_
         refine jsk ?_
         refine jy (y_pick_false rfl rfl) ?_
         refine jz ?_
         refine jnt ?_
         refine jc_ret ?_
         refine jq_ret1 rfl rfl ?_
         exact fun _ hw => ⟨rfl, (hallc.next hw (by repeat first | exact ⟨_, mem0, rfl⟩ | exact ⟨_, mem1, rfl⟩ | exact ⟨_, mem2, rfl⟩ | refine List.forall_mem_cons.2 ⟨?_, ?_⟩ | exact fun _ h => absurd h List.not_mem_nil)).ch⟩
         )
       )
     ·first
      | (exfalso; omega)
      | (
       refine jz ?_
       refine jsk ?_
       refine jsk ?_
       refine jy (y_pick_false rfl rfl) ?_
       refine jz ?_
       refine jsk ?_
       refine jsk ?_
       refine jy (y_pick_false rfl rfl) ?_
       refine jz ?_
       refine jsk ?_
       refine jsk ?_
       refine jy (y_pick_false rfl rfl) ?_
       refine jz ?_
       refine jsk ?_
       refine jsk ?_
       refine jy (y_pick_false rfl rfl) ?_
       refine jz ?_
       refine jsk ?_
       refine jsk ?_
       refine jy (y_pick_false rfl rfl) ?_
       refine jz ?_
       refine jsk ?_
       refine jsk ?_
       refine jy (y_pick_false rfl rfl) ?_
       refine jz ?_
       refine jsk ?_
       refine jsk ?_
       refine jy (y_pick_false rfl rfl) ?_
       refine jz ?_
       refine jsk ?_
       refine jsk ?_
       refine jy (y_pick_false rfl rfl) ?_
       refine jz ?_
       refine jsk ?_
       refine jsk ?_
       refine jy (y_pick_false rfl rfl) ?_
       refine jz ?_
       refine jsk ?_
       refine jsk ?_
       refine jsk ?_
       refine jy (y_pick_false rfl rfl) ?_
       refine jz ?_
       refine jsk ?_
       refine jsk ?_
       refine jy (y_pick_false rfl rfl) ?_
       refine jz ?_
       refine jsk ?_
       refine jsk ?_
       refine jy (y_pick_false rfl rfl) ?_
       refine jz ?_
       refine jsk ?_
       refine jsk ?_
       refine jy (y_pick_false rfl rfl) ?_
       refine jz ?_
       refine jsk ?_
       refine jsk ?_
       refine jsk ?_
       refine jsk ?_
       refine jy (y_pick_false rfl rfl) ?_
       refine jz ?_
       refine jnt ?_
       refine jc_ret ?_
       refine jq_ret1 rfl rfl ?_
       exact fun _ hw => ⟨rfl, (hallc.next hw (by repeat first | exact ⟨_, mem0, rfl⟩ | exact ⟨_, mem1, rfl⟩ | exact ⟨_, mem2, rfl⟩ | refine List.forall_mem_cons.2 ⟨?_, ?_⟩ | exact fun _ h => absurd h List.not_mem_nil)).ch⟩
       )
     )
   )

end Go.Proofs.Ytddpoigfliaklaa