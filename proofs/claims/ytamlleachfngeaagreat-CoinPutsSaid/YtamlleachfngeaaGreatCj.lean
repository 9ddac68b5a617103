/- The walk of law 9's fixed calls. Written by program (walk.py) out of a table of contracts and invariants. -/
import Derived.Test.YtamlleachfngeaaGreatCi
import Derived.Test.YtamlleachfngeaaGreatJr
namespace Go.Proofs.YtamlleachfngeaaGreat
open Go.RowKit
set_option maxRecDepth 100000
set_option maxHeartbeats 4000000
set_option linter.unusedVariables false
set_option linter.unusedSimpArgs false
theorem cq {P : Program} {f : Nat} {a : Array Value} {w : World} {u v : Value} (h : Calls P f a w fun e w' => e = .returned v ∧ Ch [] w w') (e : v = u) : Calls P f a w fun e w' => e = .returned u ∧ Ch [] w w' := e ▸ h
abbrev h16 : ByteArray := ⟨#[48, 49, 50, 51, 52, 53, 54, 55, 56, 57, 97, 98, 99, 100, 101, 102]⟩
abbrev fxI : Inp := ⟨⟨h16, 1⟩, 1, ⟨#[115]⟩⟩
abbrev fxO : Oup := ⟨1, 5, h16, ⟨#[]⟩, 0, ⟨#[]⟩, 0, 0, ⟨#[]⟩⟩
abbrev fxT : Trx := ⟨[fxI], [fxO], pf0⟩
def fxE : ByteArray := txEnc fxT
def fxC : ByteArray := txCore fxT
def fxP : ByteArray := pfEnc pf0
theorem fxE_eq : txEnc fxT = fxE := rfl
theorem fxC_eq : txCore fxT = fxC := rfl
theorem fxP_eq : pfEnc pf0 = fxP := rfl
theorem fxE_size : fxE.size ≤ 200 := by decide +kernel
theorem fxC_size : fxC.size ≤ 200 := by decide +kernel
theorem fxP_size : fxP.size ≤ 200 := by decide +kernel
theorem fx1 : ⟨#[67, 1]⟩ ++ h16 ++ ⟨#[1, 1, 1, 1, 0, 0, 0, 0, 0, 0, 0, 5]⟩ ++ h16 = fxC := by decide +kernel
theorem fx2 : ⟨#[0]⟩ ++ oneB fxC.size ++ fxC ++ ⟨#[0, 1, 115, 0, 13]⟩ ++ fxP = fxE := by decide +kernel
theorem fxId : txID fxT = tagS strTx [fxC] := by
  have h : ¬ fxC = ⟨#[]⟩ := by decide +kernel
  unfold txID
  rw [fxC_eq, if_neg h]
theorem fxId0 : txID tx0 = ⟨#[]⟩ := by decide +kernel
theorem fxNm : pntName ⟨h16, 2⟩ = tagS strLock [h16, ⟨#[2]⟩] := by
  unfold pntName
  rw [show oneB (Pnt.mk h16 2).out = ⟨#[2]⟩ by decide +kernel]
theorem fx3 : txErr fxE = 0 := by decide +kernel
theorem fx4 : txDec fxE = fxT := by decide +kernel
def fxX : ByteArray := fxE ++ ⟨#[120]⟩
theorem fxX_eq : fxE ++ ⟨#[120]⟩ = fxX := rfl
theorem fxX_size : fxX.size ≤ 200 := by decide +kernel
def fxY : ByteArray := ⟨#[]⟩
theorem fx5 : txErr fxX = 4 := by decide +kernel
theorem fx5d : txDec fxX = tx0 := by decide +kernel
theorem fx6 : txErr fxY = 3 := by decide +kernel
theorem fx6d : txDec fxY = tx0 := by decide +kernel
abbrev fxo (n : Int) : Oup := ⟨0, n, ⟨#[]⟩, ⟨#[]⟩, 0, ⟨#[]⟩, 0, 0, ⟨#[]⟩⟩
theorem fxo_fit {n : Int} (h : 0 ≤ n ∧ n ≤ 18446744073709551615) : (fxo n).Fit := ⟨(by simp only [fits]; decide), h, (by simp only [fits]; decide), (by simp only [fits]; decide), (by simp only [fits]; decide)⟩
theorem fxo_two {m n : Int} (h : 0 ≤ m ∧ m ≤ 18446744073709551615) (h2 : 0 ≤ n ∧ n ≤ 18446744073709551615) : ∀ o ∈ [fxo m, fxo n], o.Fit := by
  intro o ho
  rcases List.mem_cons.1 ho with rfl | ho
  · exact fxo_fit h
  · rw [List.mem_singleton.1 ho]; exact fxo_fit h2
theorem fxW1 : sumA ([fxo 3, fxo 4].map Oup.amount) = 7 ∧ sumE ([fxo 3, fxo 4].map Oup.amount) = 0 := by decide
theorem fxW2 : sumA ([fxo 9223372036854775808, fxo 9223372036854775808].map Oup.amount) = 0 ∧ sumE ([fxo 9223372036854775808, fxo 9223372036854775808].map Oup.amount) = 2 := by decide
theorem fxF1 : ouFits ⟨2, 1, h16, h16, 9, h16, 2, 3, ⟨#[]⟩⟩ = true := by decide +kernel
theorem fxF2 : ouFits ⟨3, 1, h16, h16, 9, ⟨#[]⟩, 0, 0, h16⟩ = true := by decide +kernel
theorem fxF3 : ouFits ⟨1, 1, h16, ⟨#[]⟩, 0, ⟨#[]⟩, 0, 0, h16⟩ = false := by decide +kernel
theorem fxR0 : txRight tx0 = false := by decide +kernel
theorem fxFit : fxT.Fit := ⟨fun i hi => by rw [List.mem_singleton.1 hi]; exact ⟨(by simp only [fits]; decide), (by simp only [fits]; decide)⟩, fun o ho => by rw [List.mem_singleton.1 ho]; exact ⟨(by simp only [fits]; decide), (by simp only [fits]; decide), (by simp only [fits]; decide), (by simp only [fits]; decide), (by simp only [fits]; decide)⟩, ⟨(by simp only [fits]; decide), fun x hx => by cases hx⟩⟩
theorem fxFit0 : tx0.Fit := ⟨fun i hi => (by cases hi), fun o ho => (by cases ho), ⟨(by simp only [fits]; decide), fun x hx => by cases hx⟩⟩
theorem el_nil {w : World} {ad : Option Addr} {n : Nat} : ElAt w ad n [] := fun i cs h => by simp at h
theorem z0 : (⟨#[0]⟩ : ByteArray).size = 1 := rfl
theorem z5 : (⟨#[0, 1, 115, 0, 13]⟩ : ByteArray).size = 5 := rfl
theorem z120 : (⟨#[120]⟩ : ByteArray).size = 1 := rfl
theorem fxY_eq : Value.string ⟨#[]⟩ = .string fxY := rfl
theorem codecY (w : World) : Calls Tryz.prog 58 #[.string ⟨#[]⟩] w fun e w' => ∃ pr : (Option Addr × Nat) × (Option Addr × Nat) × (Option Addr × Nat), e = .returned (.tuple #[.agg (Trx.c tx0 pr.1.1 pr.1.2 pr.2.1.1 pr.2.1.2 pr.2.2.1 pr.2.2.2).toArray, .int .i64 3]) ∧ Hp w [] [.row pr.1.1 tx0.ins.length pr.1.2 53 4 (tx0.ins.flatMap Inp.c), .row pr.2.1.1 tx0.outs.length pr.2.1.2 47 9 (tx0.outs.flatMap Oup.c), .row pr.2.2.1 tx0.pf.wins.length pr.2.2.2 77 10 (tx0.pf.wins.flatMap Wn.c)] w' := by
  have h := codec_any fxY w (by decide)
  rw [fx6, fx6d] at h
  exact h
attribute [irreducible] fxE fxC fxP fxX fxY

theorem fixed9_any (w : World) :
  Calls Tryz.prog 24 #[] w fun e w' => e = .returned (.bool true) ∧ Ch [] w w' := by
 refine calls_of (n := 160) (E := []) (W := Hp w [] []) Tryz.func24 rfl rfl (Nat.le_of_ble_eq_true rfl) rfl (Hp.nil _ _) ?_
 refine jsr ?_
 refine jz ?_
 refine jnt ?_
 refine jsr ?_
 refine jz ?_
 refine jnt ?_
 refine jsr ?_
 refine jz ?_
 refine jy (y_build (Built.cell rfl rfl rfl (by repeat constructor) (Built.cell rfl rfl rfl (by repeat constructor) Built.nil))) ?_
 refine jy (y_build (Built.agg rfl rfl rfl (by repeat constructor) (Built.cell rfl rfl rfl (by repeat constructor) (Built.cell rfl rfl rfl (by repeat constructor) Built.nil)))) ?_
 refine jl_m rfl (by decide) rfl (m_buildSlice (size := 4) (by decide) (Built.agg rfl rfl rfl (by repeat constructor) Built.nil)) (fun b20 => ?_)
 refine jz ?_
 refine jy (y_build (Built.cell rfl rfl rfl (by repeat constructor) (Built.cell rfl rfl rfl (by repeat constructor) (Built.cell rfl rfl rfl (by repeat constructor) Built.nil)))) ?_
 refine jl_m rfl (by decide) rfl (m_buildSlice (size := 9) (by decide) (Built.agg rfl rfl rfl (by repeat constructor) Built.nil)) (fun b23 => ?_)
 refine jy (y_build (Built.cell rfl rfl rfl (by repeat constructor) (Built.cell rfl rfl rfl (by repeat constructor) Built.nil))) ?_
 refine jl_m rfl (by decide) rfl (m_alloc) (fun b2 => ?_)
 refine jst ?_
 refine jnt ?_
 refine jsr ?_
 refine jz ?_
 refine jy (y_concat rfl rfl (by first | omega | decide +kernel | (simp only [ByteArray.size_append, oneB_size, z0, z5, z120]; have := fxC_size; have := fxP_size; have := fxE_size; omega))) ?_
 refine jy (y_concat rfl rfl (by first | omega | decide +kernel | (simp only [ByteArray.size_append, oneB_size, z0, z5, z120]; have := fxC_size; have := fxP_size; have := fxE_size; omega))) ?_
 refine jz ?_
 refine jy (y_concat rfl rfl (by first | omega | decide +kernel | (simp only [ByteArray.size_append, oneB_size, z0, z5, z120]; have := fxC_size; have := fxP_size; have := fxE_size; omega))) ?_
 refine jl_as (u := .string fxC) (congrArg Value.string fx1) ?_
 refine jz ?_
 refine jnt ?_
 refine jc_seq ?_
 refine jc_rebase (fun wx hbx => ?_)
 have hT : Old wx b2 0 (Trx.c fxT (some ⟨b20, 0, none⟩) 1 (some ⟨b23, 0, none⟩) 1 none 0) := Old.of_cells (hbx.get mem0)
 have hi : ElAt wx (some ⟨b20, 0, none⟩) 4 (fxT.ins.map Inp.c) := ElAt.of_row (fun _ => rfl) rfl (hbx.get (A := .row (some ⟨b20, 0, none⟩) 1 1 _ 4 (fxT.ins.flatMap Inp.c)) mem2)
 have ho : ElAt wx (some ⟨b23, 0, none⟩) 9 (fxT.outs.map Oup.c) := ElAt.of_row (fun _ => rfl) rfl (hbx.get (A := .row (some ⟨b23, 0, none⟩) 1 1 _ 9 (fxT.outs.flatMap Oup.c)) mem1)
 refine jc_region ?_
 refine jy (y_loadAgg_old rfl rfl hT (by simp)) ?_
 refine jpc (goes_func rfl) (fun w1 hw1 => txenc_any fxT (some ⟨b20, 0, none⟩) 1 (some ⟨b23, 0, none⟩) 1 none 0 w1 (hi.keep hw1) (ho.keep hw1) el_nil (by decide) (by decide) (by decide) fxFit) ?_
 refine jl_as (u := .string fxE) (congrArg Value.string fxE_eq) ?_
 refine jz ?_
 refine jnt ?_
 refine jsr ?_
 refine jz ?_
 refine jl_gcall3 rfl (by decide) rfl (goes_func rfl) (fun w1 hw1 => codec_any fxE w1 (by have := fxE_size; omega)) (fun d1 => ?_)
 refine jl_as (u := .tuple #[.agg (Trx.c fxT d1.1.1 d1.1.2 d1.2.1.1 d1.2.1.2 d1.2.2.1 d1.2.2.2).toArray, .int .i64 0]) (by rw [fx3, fx4]) ?_
 refine jz ?_
 refine jz ?_
 refine jz ?_
 refine jl_m rfl (by decide) rfl (m_alloc) (fun b5 => ?_)
 refine jst ?_
 refine jz ?_
 refine jnt ?_
 refine jc_seq ?_
 refine jc_world (fun _ h => h.cast (H' := [.cells b5 (Trx.c fxT d1.1.1 d1.1.2 d1.2.1.1 d1.2.1.2 d1.2.2.1 d1.2.2.2), .row d1.1.1 fxT.ins.length d1.1.2 53 4 (fxT.ins.flatMap Inp.c), .row d1.2.1.1 fxT.outs.length d1.2.1.2 47 9 (fxT.outs.flatMap Oup.c), .row d1.2.2.1 fxT.pf.wins.length d1.2.2.2 77 10 (fxT.pf.wins.flatMap Wn.c)]) (by rw [fx4])) ?_
 refine jc_rebase (fun wy hby => ?_)
 have hU : Old wy b5 0 (Trx.c fxT d1.1.1 d1.1.2 d1.2.1.1 d1.2.1.2 d1.2.2.1 d1.2.2.2) := Old.of_cells (hby.get mem0)
 have u1 : ElAt wy d1.1.1 4 (fxT.ins.map Inp.c) := ElAt.of_row (fun _ => rfl) rfl (hby.get mem1)
 have u2 : ElAt wy d1.2.1.1 9 (fxT.outs.map Oup.c) := ElAt.of_row (fun _ => rfl) rfl (hby.get mem2)
 replace hT := hT.keep hby
 replace hi := hi.keep hby
 replace ho := ho.keep hby
 refine jc_region ?_
 refine jz ?_
 refine jy (y_concat rfl rfl (by first | omega | decide +kernel | (simp only [ByteArray.size_append, oneB_size, z0, z5, z120]; have := fxC_size; have := fxP_size; have := fxE_size; omega))) ?_
 refine jl_as (u := .string fxX) (congrArg Value.string fxX_eq) ?_
 refine jl_gcall3 rfl (by decide) rfl (goes_func rfl) (fun w1 hw1 => codec_any fxX w1 (by have := fxX_size; omega)) (fun d2 => ?_)
 refine jl_as (u := .tuple #[.agg (Trx.c tx0 d2.1.1 d2.1.2 d2.2.1.1 d2.2.1.2 d2.2.2.1 d2.2.2.2).toArray, .int .i64 4]) (by rw [fx5, fx5d]) ?_
 refine jz ?_
 refine jz ?_
 refine jz ?_
 refine jl_m rfl (by decide) rfl (m_alloc) (fun b7 => ?_)
 refine jst ?_
 refine jz ?_
 refine jnt ?_
 refine jc_seq ?_
 refine jc_world (fun _ h => h.part (F := []) .nil) ?_
 refine jc_region ?_
 refine jl_gcall3 rfl (by decide) rfl (goes_func rfl) (fun w1 hw1 => codecY w1) (fun d3 => ?_)
 refine jz ?_
 refine jz ?_
 refine jz ?_
 refine jl_m rfl (by decide) rfl (m_alloc) (fun b9 => ?_)
 refine jst ?_
 refine jz ?_
 refine jnt ?_
 refine jc_seq ?_
 refine jc_world (fun _ h => h.part (F := []) .nil) ?_
 refine jc_region ?_
 refine jy (y_build (Built.cell rfl rfl rfl (by repeat constructor) Built.nil)) ?_
 refine jy (y_build (Built.cell rfl rfl rfl (by repeat constructor) Built.nil)) ?_
 refine jl_m rfl (by decide) rfl (m_buildSlice (size := 9) (by decide) (Built.agg rfl rfl rfl (by repeat constructor) (Built.agg rfl rfl rfl (by repeat constructor) Built.nil))) (fun b50 => ?_)
 refine jpc (goes_func rfl) (fun w1 hw1 => whole_any (some ⟨b50, 0, none⟩) 2 [fxo 3, fxo 4] w1 (fxo_two (by decide) (by decide)) (by decide) (ElAt.of_row (l := [fxo 3, fxo 4]) (c := Oup.c) (fun _ => rfl) rfl (hw1.get mem0))) ?_
 refine jl_as (u := .tuple #[.int .u64 7, .int .i64 0]) (by rw [fxW1.1, fxW1.2]) ?_
 refine jz ?_
 refine jz ?_
 refine jz ?_
 refine jz ?_
 refine jz ?_
 refine jnt ?_
 refine jc_seq ?_
 refine jc_world (fun _ h => h.part (F := []) .nil) ?_
 refine jc_region ?_
 refine jy (y_build (Built.cell rfl rfl rfl (by repeat constructor) Built.nil)) ?_
 refine jy (y_build (Built.cell rfl rfl rfl (by repeat constructor) Built.nil)) ?_
 refine jl_m rfl (by decide) rfl (m_buildSlice (size := 9) (by decide) (Built.agg rfl rfl rfl (by repeat constructor) (Built.agg rfl rfl rfl (by repeat constructor) Built.nil))) (fun b57 => ?_)
 refine jpc (goes_func rfl) (fun w1 hw1 => whole_any (some ⟨b57, 0, none⟩) 2 [fxo 9223372036854775808, fxo 9223372036854775808] w1 (fxo_two (by decide) (by decide)) (by decide) (ElAt.of_row (l := [fxo 9223372036854775808, fxo 9223372036854775808]) (c := Oup.c) (fun _ => rfl) rfl (hw1.get mem0))) ?_
 refine jl_as (u := .tuple #[.int .u64 0, .int .i64 2]) (by rw [fxW2.1, fxW2.2]) ?_
 refine jz ?_
 refine jz ?_
 refine jz ?_
 refine jz ?_
 refine jz ?_
 refine jnt ?_
 refine jc_seq ?_
 refine jc_world (fun _ h => h.part (F := []) .nil) ?_
 refine jc_region ?_
 refine jz ?_
 refine jz ?_
 refine jz ?_
 refine jy (y_build (Built.cell rfl rfl rfl (by repeat constructor) (Built.cell rfl rfl rfl (by repeat constructor) (Built.cell rfl rfl rfl (by repeat constructor) (Built.cell rfl rfl rfl (by repeat constructor) (Built.cell rfl rfl rfl (by repeat constructor) (Built.cell rfl rfl rfl (by repeat constructor) (Built.cell rfl rfl rfl (by repeat constructor) (Built.cell rfl rfl rfl (by repeat constructor) Built.nil))))))))) ?_
 refine jl_m rfl (by decide) rfl (m_alloc) (fun b15 => ?_)
 refine jst ?_
 refine jnt ?_
 refine jsr ?_
 refine jz ?_
 refine jz ?_
 refine jz ?_
 refine jy (y_build (Built.cell rfl rfl rfl (by repeat constructor) (Built.cell rfl rfl rfl (by repeat constructor) (Built.cell rfl rfl rfl (by repeat constructor) (Built.cell rfl rfl rfl (by repeat constructor) (Built.cell rfl rfl rfl (by repeat constructor) (Built.cell rfl rfl rfl (by repeat constructor) Built.nil))))))) ?_
 refine jl_m rfl (by decide) rfl (m_alloc) (fun b16 => ?_)
 refine jst ?_
 refine jnt ?_
 refine jc_seq ?_
 refine jc_drop [0] ?_
 refine jc_free (by kernel_rfl) Hp.stay ?_
 refine jn_y [] rfl rfl (fun w1 hw1 => And.intro rfl (y_loadAgg_old rfl rfl (hT.keep hw1) (by simp))) ?_
 refine jn_call [0] rfl rfl (fun w1 hw1 => And.intro rfl ⟨_, _, goes_func rfl, cq (txcore_any fxT (some ⟨b20, 0, none⟩) 1 (some ⟨b23, 0, none⟩) 1 none 0 w1 (hi.keep hw1) (ho.keep hw1) el_nil (by decide) (by decide) (by decide) fxFit) (congrArg Value.string fxC_eq)⟩) ?_
 refine jn_y [] rfl rfl (fun w1 hw1 => And.intro rfl (y_move rfl)) ?_
 refine jn_y [1, 2] rfl rfl (fun w1 hw1 => And.intro rfl (y_seql rfl rfl)) ?_
 refine jn_as (u := .bool true) (congrArg (fun b => Value.bool b) (decide_eq_true (rfl))) ?_
 refine jn_y [3] rfl rfl (fun w1 hw1 => And.intro rfl (y_move rfl)) ?_
 refine jn_y [4] rfl rfl (fun w1 hw1 => And.intro rfl (y_loadAgg_old rfl rfl (hT.keep hw1) (by simp))) ?_
 refine jn_call [4, 5] rfl rfl (fun w1 hw1 => And.intro rfl ⟨_, _, goes_func rfl, cq (txid_any fxT (some ⟨b20, 0, none⟩) 1 (some ⟨b23, 0, none⟩) 1 none 0 w1 (hi.keep hw1) (ho.keep hw1) el_nil (by decide) (by decide) (by decide) fxFit) (congrArg Value.string fxId)⟩) ?_
 refine jn_y [4] rfl rfl (fun w1 hw1 => And.intro rfl (y_move rfl)) ?_
 refine jn_m [4, 7] rfl rfl (fun w1 hw1 => And.intro rfl (m_buildSlice (by decide) (Built.cell rfl rfl rfl (by repeat constructor) Built.nil))) ?_
 refine jn_call [4, 8] rfl rfl (fun w1 hw1 b77 h77 => And.intro rfl ⟨_, _, goes_func rfl, tag_any strTx (some ⟨b77, 0, none⟩) 1 [fxC] w1 (by decide) (by simp) (all1 (by have := fxC_size; omega)) (Strs.of_row (h77 _ mem0))⟩) ?_
 refine jn_y [4, 6, 9] rfl rfl (fun w1 hw1 => And.intro rfl (y_seql rfl rfl)) ?_
 refine jn_as (u := .bool true) (congrArg (fun b => Value.bool b) (decide_eq_true (rfl))) ?_
 refine jn_y [4, 10] rfl rfl (fun w1 hw1 => And.intro rfl (y_pick_true rfl rfl)) ?_
 refine jn_y [11] rfl rfl (fun w1 hw1 => And.intro rfl (y_move rfl)) ?_
 refine jn_y [12] rfl rfl (fun w1 hw1 => And.intro rfl (y_move rfl)) ?_
 refine jn_y [12] rfl rfl (fun w1 hw1 => And.intro rfl (y_move rfl)) ?_
 refine jn_y [12, 14] rfl rfl (fun w1 hw1 => And.intro rfl (y_len_str rfl)) ?_
 refine jn_y [12, 15] rfl rfl (fun w1 hw1 => And.intro rfl (y_conv_u8 rfl)) ?_
 refine jn_m [12, 16] rfl rfl (fun w1 hw1 => And.intro rfl (m_buildSlice (by decide) (Built.cell rfl rfl rfl (by repeat constructor) Built.nil))) ?_
 refine jn_y [12, 17] rfl rfl (fun w1 hw1 b86 h86 => And.intro rfl (y_str_at rfl (h86 _ mem0) (by repeat constructor))) ?_
 refine jn_as (u := .string (oneB fxC.size)) rfl ?_
 refine jn_y [12, 18] rfl rfl (fun w1 hw1 => And.intro rfl (y_concat rfl rfl (by first | omega | decide +kernel | (simp only [ByteArray.size_append, oneB_size, z0, z5, z120]; have := fxC_size; have := fxP_size; have := fxE_size; omega)))) ?_
 refine jn_y [12] rfl rfl (fun w1 hw1 => And.intro rfl (y_move rfl)) ?_
 refine jn_y [12, 19, 20] rfl rfl (fun w1 hw1 => And.intro rfl (y_concat rfl rfl (by first | omega | decide +kernel | (simp only [ByteArray.size_append, oneB_size, z0, z5, z120]; have := fxC_size; have := fxP_size; have := fxE_size; omega)))) ?_
 refine jn_y [12, 21] rfl rfl (fun w1 hw1 => And.intro rfl (y_concat rfl rfl (by first | omega | decide +kernel | (simp only [ByteArray.size_append, oneB_size, z0, z5, z120]; have := fxC_size; have := fxP_size; have := fxE_size; omega)))) ?_
 refine jn_y [12] rfl rfl (fun w1 hw1 => And.intro rfl (y_build Built.nil)) ?_
 refine jn_call [12, 23] rfl rfl (fun w1 hw1 => And.intro rfl ⟨_, _, goes_func rfl, cq (enc_any pf0 none 0 w1 el_nil fxFit.pf (by decide)) (congrArg Value.string fxP_eq)⟩) ?_
 refine jn_y [12, 22, 24] rfl rfl (fun w1 hw1 => And.intro rfl (y_concat rfl rfl (by first | omega | decide +kernel | (simp only [ByteArray.size_append, oneB_size, z0, z5, z120]; have := fxC_size; have := fxP_size; have := fxE_size; omega)))) ?_
 refine jn_as (u := .string fxE) (congrArg Value.string fx2) ?_
 refine jn_y [12, 13, 25] rfl rfl (fun w1 hw1 => And.intro rfl (y_seql rfl rfl)) ?_
 refine jn_as (u := .bool true) (congrArg (fun b => Value.bool b) (decide_eq_true (rfl))) ?_
 refine jn_y [12, 26] rfl rfl (fun w1 hw1 => And.intro rfl (y_pick_true rfl rfl)) ?_
 refine jn_y [27] rfl rfl (fun w1 hw1 => And.intro rfl (y_move rfl)) ?_
 refine jn_y [28] rfl rfl (fun w1 hw1 => And.intro rfl (y_loadAgg_old rfl rfl (hT.keep hw1) (by simp))) ?_
 refine jn_y [28] rfl rfl (fun w1 hw1 => And.intro rfl (y_loadAgg_old rfl rfl (hU.keep hw1) (by simp))) ?_
 refine jn_call [28, 29, 30] rfl rfl (fun w1 hw1 => And.intro rfl ⟨_, _, goes_func rfl, cq (cosame_any fxT fxT (some ⟨b20, 0, none⟩) 1 (some ⟨b23, 0, none⟩) 1 none 0 d1.1.1 d1.1.2 d1.2.1.1 d1.2.1.2 d1.2.2.1 d1.2.2.2 w1 (hi.keep hw1) (ho.keep hw1) el_nil (u1.keep hw1) (u2.keep hw1) el_nil (by decide) (by decide) (by decide) (by decide) (by decide) (by decide)) (congrArg Value.bool (decide_eq_true rfl))⟩) ?_
 refine jn_y [28, 31] rfl rfl (fun w1 hw1 => And.intro rfl (y_pick_true rfl rfl)) ?_
 refine jn_y [32] rfl rfl (fun w1 hw1 => And.intro rfl (y_move rfl)) ?_
 refine jn_y [33] rfl rfl (fun w1 hw1 => And.intro rfl (y_move rfl)) ?_
 refine jn_y [33, 34] rfl rfl (fun w1 hw1 => And.intro rfl (y_eql rfl rfl)) ?_
 refine jn_as (u := .bool true) (congrArg Value.bool (decide_eq_true rfl)) ?_
 refine jn_y [33, 35] rfl rfl (fun w1 hw1 => And.intro rfl (y_pick_true rfl rfl)) ?_
 refine jn_y [36] rfl rfl (fun w1 hw1 => And.intro rfl (y_move rfl)) ?_
 refine jn_y [37] rfl rfl (fun w1 hw1 => And.intro rfl (y_move rfl)) ?_
 refine jn_y [37, 38] rfl rfl (fun w1 hw1 => And.intro rfl (y_eql rfl rfl)) ?_
 refine jn_as (u := .bool true) (congrArg Value.bool (decide_eq_true rfl)) ?_
 refine jn_y [37, 39] rfl rfl (fun w1 hw1 => And.intro rfl (y_pick_true rfl rfl)) ?_
 refine jn_y [40] rfl rfl (fun w1 hw1 => And.intro rfl (y_move rfl)) ?_
 refine jn_y [41] rfl rfl (fun w1 hw1 => And.intro rfl (y_move rfl)) ?_
 refine jn_y [41, 42] rfl rfl (fun w1 hw1 => And.intro rfl (y_eql rfl rfl)) ?_
 refine jn_as (u := .bool true) (congrArg Value.bool (decide_eq_true rfl)) ?_
 refine jn_y [41, 43] rfl rfl (fun w1 hw1 => And.intro rfl (y_pick_true rfl rfl)) ?_
 refine jn_y [44] rfl rfl (fun w1 hw1 => And.intro rfl (y_move rfl)) ?_
 refine jn_y [45] rfl rfl (fun w1 hw1 => And.intro rfl (y_move rfl)) ?_
 refine jn_y [45, 46] rfl rfl (fun w1 hw1 => And.intro rfl (y_eql rfl rfl)) ?_
 refine jn_as (u := .bool true) (congrArg Value.bool (decide_eq_true rfl)) ?_
 refine jn_y [45, 47] rfl rfl (fun w1 hw1 => And.intro rfl (y_pick_true rfl rfl)) ?_
 refine jn_y [48] rfl rfl (fun w1 hw1 => And.intro rfl (y_move rfl)) ?_
 refine jn_y [49] rfl rfl (fun w1 hw1 => And.intro rfl (y_move rfl)) ?_
 refine jn_y [49, 50] rfl rfl (fun w1 hw1 => And.intro rfl (y_eql rfl rfl)) ?_
 refine jn_as (u := .bool true) (congrArg Value.bool (decide_eq_true rfl)) ?_
 refine jn_y [49, 51] rfl rfl (fun w1 hw1 => And.intro rfl (y_pick_true rfl rfl)) ?_
 refine jn_y [52] rfl rfl (fun w1 hw1 => And.intro rfl (y_move rfl)) ?_
 refine jn_y [53] rfl rfl (fun w1 hw1 => And.intro rfl (y_move rfl)) ?_
 refine jn_y [53, 54] rfl rfl (fun w1 hw1 => And.intro rfl (y_eql rfl rfl)) ?_
 refine jn_as (u := .bool true) (congrArg Value.bool (decide_eq_true rfl)) ?_
 refine jn_y [53, 55] rfl rfl (fun w1 hw1 => And.intro rfl (y_pick_true rfl rfl)) ?_
 refine jn_y [56] rfl rfl (fun w1 hw1 => And.intro rfl (y_move rfl)) ?_
 refine jn_y [57] rfl rfl (fun w1 hw1 => And.intro rfl (y_move rfl)) ?_
 refine jn_y [57, 58] rfl rfl (fun w1 hw1 => And.intro rfl (y_build (Built.cell rfl rfl rfl (by repeat constructor) (Built.cell rfl rfl rfl (by repeat constructor) Built.nil)))) ?_
 refine jn_call [57, 59] rfl rfl (fun w1 hw1 => And.intro rfl ⟨_, _, goes_func rfl, cq (cname_any ⟨h16, 2⟩ w1 (by decide)) (congrArg Value.string fxNm)⟩) ?_
 refine jn_y [57] rfl rfl (fun w1 hw1 => And.intro rfl (y_move rfl)) ?_
 refine jn_m [57, 61] rfl rfl (fun w1 hw1 => And.intro rfl (m_buildSlice (by decide) (Built.cell rfl rfl rfl (by repeat constructor) (Built.cell rfl rfl rfl (by repeat constructor) Built.nil)))) ?_
 refine jn_call [57, 62] rfl rfl (fun w1 hw1 b131 h131 => And.intro rfl ⟨_, _, goes_func rfl, tag_any strLock (some ⟨b131, 0, none⟩) 2 [h16, ⟨#[2]⟩] w1 (by decide) (by simp) (all2 (by decide) (by decide)) (Strs.of_row (h131 _ mem0))⟩) ?_
 refine jn_y [57, 60, 63] rfl rfl (fun w1 hw1 => And.intro rfl (y_seql rfl rfl)) ?_
 refine jn_as (u := .bool true) (congrArg (fun b => Value.bool b) (decide_eq_true (rfl))) ?_
 refine jn_y [57, 64] rfl rfl (fun w1 hw1 => And.intro rfl (y_pick_true rfl rfl)) ?_
 refine jn_y [65] rfl rfl (fun w1 hw1 => And.intro rfl (y_move rfl)) ?_
 refine jn_y [66] rfl rfl (fun w1 hw1 => And.intro rfl (y_loadAgg_old (us := Oup.c ⟨2, 1, h16, h16, 9, h16, 2, 3, ⟨#[]⟩⟩) rfl rfl (Old.of_cells (hw1.get (A := .cells b15 (Oup.c ⟨2, 1, h16, h16, 9, h16, 2, 3, ⟨#[]⟩⟩)) mem1)) (by simp))) ?_
 refine jn_call [66, 67] rfl rfl (fun w1 hw1 => And.intro rfl ⟨_, _, goes_func rfl, cq (cfits_any ⟨2, 1, h16, h16, 9, h16, 2, 3, ⟨#[]⟩⟩ w1) (congrArg Value.bool fxF1)⟩) ?_
 refine jn_y [66, 68] rfl rfl (fun w1 hw1 => And.intro rfl (y_pick_true rfl rfl)) ?_
 refine jn_y [69] rfl rfl (fun w1 hw1 => And.intro rfl (y_move rfl)) ?_
 refine jn_y [70] rfl rfl (fun w1 hw1 => And.intro rfl (y_loadAgg_old (us := Oup.c ⟨3, 1, h16, h16, 9, ⟨#[]⟩, 0, 0, h16⟩) rfl rfl (Old.of_cells (hw1.get (A := .cells b16 (Oup.c ⟨3, 1, h16, h16, 9, ⟨#[]⟩, 0, 0, h16⟩)) mem0)) (by simp))) ?_
 refine jn_call [70, 71] rfl rfl (fun w1 hw1 => And.intro rfl ⟨_, _, goes_func rfl, cq (cfits_any ⟨3, 1, h16, h16, 9, ⟨#[]⟩, 0, 0, h16⟩ w1) (congrArg Value.bool fxF2)⟩) ?_
 refine jn_y [70, 72] rfl rfl (fun w1 hw1 => And.intro rfl (y_pick_true rfl rfl)) ?_
 refine jn_y [73] rfl rfl (fun w1 hw1 => And.intro rfl (y_move rfl)) ?_
 refine jn_y [74] rfl rfl (fun w1 hw1 => And.intro rfl (y_move rfl)) ?_
 refine jn_y [74] rfl rfl (fun w1 hw1 => And.intro rfl (y_move rfl)) ?_
 refine jn_y [74, 75, 76] rfl rfl (fun w1 hw1 => And.intro rfl (y_build (Built.cell rfl rfl rfl (by repeat constructor) (Built.cell rfl rfl rfl (by repeat constructor) (Built.cell rfl rfl rfl (by repeat constructor) (Built.cell rfl rfl rfl (by repeat constructor) Built.nil)))))) ?_
 refine jn_call [74, 77] rfl rfl (fun w1 hw1 => And.intro rfl ⟨_, _, goes_func rfl, cq (cfits_any ⟨1, 1, h16, ⟨#[]⟩, 0, ⟨#[]⟩, 0, 0, h16⟩ w1) (congrArg Value.bool fxF3)⟩) ?_
 refine jn_y [74, 78] rfl rfl (fun w1 hw1 => And.intro rfl (y_not rfl)) ?_
 refine jn_as (u := .bool true) rfl ?_
 refine jn_y [74, 79] rfl rfl (fun w1 hw1 => And.intro rfl (y_pick_true rfl rfl)) ?_
 refine jn_y [80] rfl rfl (fun w1 hw1 => And.intro rfl (y_move rfl)) ?_
 refine jn_y [81] rfl rfl (fun w1 hw1 => And.intro rfl (y_build Built.nil)) ?_
 refine jn_call [81, 82] rfl rfl (fun w1 hw1 => And.intro rfl ⟨_, _, goes_func rfl, cq (txright_any tx0 none 0 none 0 none 0 w1 el_nil el_nil el_nil (by decide) (by decide) (by decide)) (congrArg Value.bool fxR0)⟩) ?_
 refine jn_y [81, 83] rfl rfl (fun w1 hw1 => And.intro rfl (y_not rfl)) ?_
 refine jn_as (u := .bool true) rfl ?_
 refine jn_y [81, 84] rfl rfl (fun w1 hw1 => And.intro rfl (y_pick_true rfl rfl)) ?_
 refine jn_y [85] rfl rfl (fun w1 hw1 => And.intro rfl (y_move rfl)) ?_
 refine jn_y [86] rfl rfl (fun w1 hw1 => And.intro rfl (y_build Built.nil)) ?_
 refine jn_call [86, 87] rfl rfl (fun w1 hw1 => And.intro rfl ⟨_, _, goes_func rfl, cq (txid_any tx0 none 0 none 0 none 0 w1 el_nil el_nil el_nil (by decide) (by decide) (by decide) fxFit0) (congrArg Value.string fxId0)⟩) ?_
 refine jn_y [86, 88] rfl rfl (fun w1 hw1 => And.intro rfl (y_seql rfl rfl)) ?_
 refine jn_as (u := .bool true) (congrArg (fun b => Value.bool b) (decide_eq_true (rfl))) ?_
 refine jn_y [86, 89] rfl rfl (fun w1 hw1 => And.intro rfl (y_pick_true rfl rfl)) ?_
 refine jn_y [90] rfl rfl (fun w1 hw1 => And.intro rfl (y_assign rfl)) ?_
 refine jn_nil [91] (by decide) (fun w1 hw1 => jq_at hw1 ?_)
 refine jq_then ?_
 refine jc_ret ?_
 refine jq_ret1 rfl rfl ?_
 exact fun _ hw => ⟨rfl, (hbx.ch.then (hby.ch.then hw.ch))⟩

end Go.Proofs.YtamlleachfngeaaGreat