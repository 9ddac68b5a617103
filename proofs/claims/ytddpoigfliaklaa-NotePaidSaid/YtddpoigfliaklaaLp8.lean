/- The walk of NotePaid. Written by program (walk.py) out of a table of contracts and invariants. -/
import Derived.Test.YtddpoigfliaklaaNf
import Derived.Test.YtddpoigfliaklaaMwop
namespace Go.Proofs.Ytddpoigfliaklaa
open Go.RowKit
set_option maxRecDepth 100000
set_option maxHeartbeats 2000000
set_option linter.unusedVariables false
set_option linter.unusedSimpArgs false
attribute [local irreducible] Yields Makes Writes signK rootK tokS vouch tkText commitS cntV cntE worthV worthE wonV wonE winsB winsE cutS sumF tokensV tokensE partsA facesE verK

theorem notePaid_any (seed : ByteArray) (am e0 e1 e2 e3 : Int) (w : World) (hm : fits .u32 am) (h0 : fits .u64 e0) (h1 : fits .u64 e1) (h2 : fits .u64 e2) (h3 : fits .u64 e3) :
  Calls Try.prog 3 #[.string seed, .int .u32 am, .agg #[.int .u64 e0, .int .u64 e1, .int .u64 e2, .int .u64 e3]] w fun e w' => e = .returned (.bool true) ∧ Ch [] w w' := by
 have hin : PdIn e1 e2 e3 := ⟨h1, h2, h3⟩
 simp only [fits] at hm h0 h1 h2 h3
 have hcs := cutS_size seed 50
 obtain ⟨a, ha⟩ : ∃ a, 1 + am = a := ⟨_, rfl⟩
 obtain ⟨k, hk⟩ : ∃ k : Nat, (k : Int) = e0 % 10 := ⟨(e0 % 10).toNat, by omega⟩
 obtain ⟨u, hu⟩ : ∃ u, 1 + e0 % 100 = u := ⟨_, rfl⟩
 have hmr := pdM_range h1.1
 have hct := cnt_tok str8Tks (n := 9) (i := k) (m := 9) (by omega) (by omega) (by decide)
 obtain ⟨n, hn⟩ : ∃ n, cntV (tokS str8Tks 9 0) (tokS str8Tks 9 k) 9 = n := ⟨_, rfl⟩
 rw [hn] at hct
 have hnu0 : 0 ≤ n * u := Int.mul_nonneg hct.2.1 (by omega)
 have hnu1 : n * u ≤ 9 * 100 := Int.mul_le_mul (by omega) (by omega) (by omega) (by decide)
 have hTf : ((pdTm (cutS seed 50) u)).Fit := ⟨(⟨by show 0 ≤ u; omega, by show u ≤ _; omega⟩ : fits .u64 u), (⟨by decide, by decide⟩ : fits .i64 9)⟩
 refine calls_of (n := 290) (E := [(0, .string seed), (1, .int .u32 am), (2, .agg #[.int .u64 e0, .int .u64 e1, .int .u64 e2, .int .u64 e3])]) (W := Hp w [] []) Try.func3 rfl rfl (Nat.le_of_ble_eq_true rfl) rfl (Hp.nil _ _) ?_
 refine jsr ?_
 refine jl_m rfl (by decide) rfl (m_box rfl rfl) (fun b5 => ?_)
 refine jz ?_
 refine jnt ?_
 refine jc_seq ?_
 refine jc_rebase (fun wx hbx => ?_)
 have hx0 : CellO wx [] b5 0 (.int .u64 e0) := ⟨CellAt.of_cells (hbx.get mem0) rfl, by simp⟩
 have hx1 : CellO wx [] b5 1 (.int .u64 e1) := ⟨CellAt.of_cells (hbx.get mem0) rfl, by simp⟩
 have hx2 : CellO wx [] b5 2 (.int .u64 e2) := ⟨CellAt.of_cells (hbx.get mem0) rfl, by simp⟩
 have hx3 : CellO wx [] b5 3 (.int .u64 e3) := ⟨CellAt.of_cells (hbx.get mem0) rfl, by simp⟩
 refine jc_region ?_
 refine jz ?_
 refine jz ?_
 refine jy (y_len_str rfl) ?_
 refine jy (y_min rfl rfl) ?_
 refine jy (y_substr_hi rfl rfl (by omega) (by omega)) ?_
 refine jl_as (congrArg Value.string (cut_eq _ 50)) ?_
 refine jl_ncall rfl (by decide) rfl (goes_func rfl) (fun w1 hw1 => mnew_ok (cutS seed 50) 2 w1 (by omega) (by decide)) (fun _ => rfl) (by first | (intro A hA; cases hA; done) | intro A hA k hk; simp only [List.mem_cons, List.not_mem_nil, or_false] at hA; first | (rcases hA with rfl | rfl | rfl <;> (cases hk; simp)) | (rcases hA with rfl | rfl <;> (cases hk; simp)) | (subst hA; cases hk; simp)) (fun bk wpk wk hpk hnk hfk => ?_)
 have hallk := hnk.hp ((Hp.of_ch hbx.ch).next hpk (by repeat first | exact ⟨_, mem0, rfl⟩ | exact ⟨_, mem1, rfl⟩ | exact ⟨_, mem2, rfl⟩ | refine List.forall_mem_cons.2 ⟨?_, ?_⟩ | exact fun _ h => absurd h List.not_mem_nil))
 replace hx0 := hx0.grow hpk hnk rfl
 replace hx1 := hx1.grow hpk hnk rfl
 replace hx2 := hx2.grow hpk hnk rfl
 replace hx3 := hx3.grow hpk hnk rfl
 have hkk := hfk [] (hpk.feet_lt (by intro k hk; cases hk))
 refine jz ?_
 refine jz ?_
 refine jz ?_
 refine jz ?_
 refine jz ?_
 refine jnt ?_
 refine jsr ?_
 refine jl_kcallH (by intro A hA k hk; simp only [List.mem_cons, List.not_mem_nil, or_false] at hA; first | (rcases hA with rfl | rfl | rfl <;> (cases hk; simp)) | (rcases hA with rfl | rfl <;> (cases hk; simp)) | (subst hA; cases hk; simp)) rfl (by decide) rfl (goes_func rfl) (fun w1 hw1 => new_ok str8Tks 9 w1 (by decide) (by decide) (by decide)) (fun bc wc hbc hcc => ?_)
 have hallc := hallk.next hbc (by repeat first | exact ⟨_, mem0, rfl⟩ | exact ⟨_, mem1, rfl⟩ | exact ⟨_, mem2, rfl⟩ | refine List.forall_mem_cons.2 ⟨?_, ?_⟩ | exact fun _ h => absurd h List.not_mem_nil)
 replace hx0 := hx0.keep hbc
 replace hx1 := hx1.keep hbc
 replace hx2 := hx2.keep hbc
 replace hx3 := hx3.keep hbc
 replace hkk := hkk.keep hbc
 have hoc := ChainAt.apart hcc (hbc.get mem0)
 refine jz ?_
 refine jz ?_
 refine jz ?_
 refine jz ?_
 refine jz ?_
 refine jnt ?_
 refine jc_seq ?_
 refine jsr ?_
 refine jz ?_
 refine jy (y_eql_nil rfl rfl) ?_
 refine jl_as (u := .bool false) rfl ?_
 refine jz ?_
 refine jz ?_
 refine jy (y_eql_nil rfl rfl) ?_
 refine jl_as (u := .bool false) rfl ?_
 refine jy (y_pick_false rfl rfl) ?_
 refine jz ?_
 refine jz ?_
 refine jy (y_neq rfl rfl) ?_
 refine jl_prop (fun h59 => ?_) (fun h59 => ?_)
 ·first
  | (exfalso; omega)
  | (
   refine jy (y_pick_false rfl rfl) ?_
   refine jz ?_
   refine jsk ?_
   refine jsk ?_
   refine jy (y_pick_true rfl rfl) ?_
   refine jnt ?_
   refine jc_true rfl ?_
   refine jsr ?_
   refine jz ?_
   refine jnt ?_
   refine jc_ret ?_
   refine jq_then_ret ?_
   refine jq_ret1 rfl rfl ?_
   exact fun _ hw => ⟨rfl, (hallc.next hw (by repeat first | exact ⟨_, mem0, rfl⟩ | exact ⟨_, mem1, rfl⟩ | exact ⟨_, mem2, rfl⟩ | refine List.forall_mem_cons.2 ⟨?_, ?_⟩ | exact fun _ h => absurd h List.not_mem_nil)).ch⟩
   )
 ·first
  | (exfalso; omega)
  | (
   refine jy (y_pick_false rfl rfl) ?_
   refine jz ?_
   refine jz ?_
   refine jy (y_neq rfl rfl) ?_
   refine jl_prop (fun h63 => ?_) (fun h63 => ?_)
   ·first
    | (exfalso; omega)
    | (
     refine jy (y_pick_false rfl rfl) ?_
     refine jnt ?_
     refine jc_true rfl ?_
     refine jsr ?_
     refine jz ?_
     refine jnt ?_
     refine jc_ret ?_
     refine jq_then_ret ?_
     refine jq_ret1 rfl rfl ?_
     exact fun _ hw => ⟨rfl, (hallc.next hw (by repeat first | exact ⟨_, mem0, rfl⟩ | exact ⟨_, mem1, rfl⟩ | exact ⟨_, mem2, rfl⟩ | refine List.forall_mem_cons.2 ⟨?_, ?_⟩ | exact fun _ h => absurd h List.not_mem_nil)).ch⟩
     )
   ·first
    | (exfalso; omega)
    | (
     refine jy (y_pick_false rfl rfl) ?_
     refine jnt ?_
     refine jc_false rfl ?_
     refine jc_skip ?_
     refine jq_then ?_
     refine jsr ?_
     refine jz ?_
     refine jl_as (u := .string str8Ch) rfl ?_
     refine jnt ?_
     refine jc_seq ?_
     refine jc_tree 11 (.step 0 true (.step 1 true (.step 3 true (.step 5 true (.step 6 true (.step 7 true (.step 8 true (.fork 2 (.fork 4 (.step 9 true (.step 10 false .nil)) 10 (.step 4 false (.step 9 true .nil))) 10 (.step 2 false (.step 4 false (.step 9 true .nil))))))))))) (by kernel_rfl) (fun _ _ _ _ h => h) (fun _ h => h.drew) ?_
     simp only [List.drop_succ_cons, List.drop_zero]
     refine jf_take rfl rfl (by decide) rfl (y_move rfl) ?_
     refine jf_take rfl rfl (by decide) rfl (y_move rfl) ?_
     refine jf_take rfl rfl (by decide) rfl (y_move rfl) ?_
     refine jf_take rfl rfl (by decide) rfl (y_indexAddr_arr rfl rfl (by omega) (by omega) (by simp only [Int.toNat_natCast, Int.reduceSub, Int.reduceAdd, Int.reduceToNat, Nat.reduceMul, Nat.reduceAdd, Nat.zero_add, Nat.mul_one, Nat.zero_mul, Nat.add_zero]; exact rfl)) ?_
     refine jf_take rfl rfl (by decide) rfl (y_load_old rfl hx0.1 hx0.2) ?_
     refine jf_take rfl rfl (by decide) rfl (y_rem rfl rfl (by omega) (by omega)) ?_
     refine jf_take rfl rfl (by decide) rfl (y_add_u64 rfl rfl) ?_
     refine jf_as (u := .int .u64 u) (congrArg (Value.int .u64) (by omega)) ?_
     refine jf_fork ?_ ?_
     ·skip
      refine jf_pcall (by intro _ h; first | exact h | exact h.pop | exact h.pop.pop | exact h.pop.pop.pop | exact h.pop.pop.pop.pop | exact h.pop.pop.pop.pop.pop | exact h.pop.pop.pop.pop.pop.pop | exact h.part .nil) rfl rfl (by decide) rfl (goes_func rfl) (fun w1 hw1 => pcall hw1 (kroot_any _ bk.1 bk.2 (cutS seed 50) 2 w1 (hkk.keep hw1))) ?_
      refine jf_fork ?_ ?_
      ·skip
       refine jf_pcall (by intro _ h; first | exact h | exact h.pop | exact h.pop.pop | exact h.pop.pop.pop | exact h.pop.pop.pop.pop | exact h.pop.pop.pop.pop.pop | exact h.pop.pop.pop.pop.pop.pop | exact h.part .nil) rfl rfl (by decide) rfl (goes_func rfl) (fun w1 hw1 => pcall hw1 (anchor_any bc str8Tks 9 w1 (hoc.keep hw1).at)) ?_
       refine jf_take rfl rfl (by decide) rfl (y_build (Built.cell rfl rfl rfl (by repeat constructor) (Built.cell rfl rfl rfl (by repeat constructor) (Built.cell rfl rfl rfl (by repeat constructor) (Built.cell rfl rfl rfl (by repeat constructor) (Built.cell rfl rfl rfl (by repeat constructor) Built.nil)))))) ?_
       refine jf_m (by intros; rename_i h; first | exact h | exact h.pop | exact h.pop.pop | exact h.pop.pop.pop | exact h.pop.pop.pop.pop | exact h.pop.pop.pop.pop.pop | exact h.pop.pop.pop.pop.pop.pop | exact h.part .nil) rfl rfl (by decide) rfl (m_alloc) (fun b12 => ?_)
       refine jf_nil ?_
       refine jst ?_
       refine jnt ?_
       refine jsr ?_
       refine jz ?_
       first | refine jy (y_conv_fits rfl (by simp only [fits]; omega)) ?_ | refine jy (y_conv_u64 rfl) ?_
       refine jy (y_add_u64 rfl rfl) ?_
       refine jl_as (u := .int .u64 a) (congrArg (Value.int .u64) (by omega)) ?_
       refine jz ?_
       refine jnt ?_
       refine jsr ?_
       refine jz ?_
       refine jz ?_
       refine jz ?_
       refine jpc (goes_func rfl) (fun w1 hw1 => vouch_any str8Ch a w1 (by decide) (by simp only [fits]; omega)) ?_
       refine jl_ucallH rfl (by decide) rfl (goes_func rfl) (by rfl) (fun w1 hw1 => ksign_ok [bk.2] bk.1 bk.2 (cutS seed 50) 2 w1 (hkk.keep hw1) (by simp) (by decide) (by omega) (vouch str8Ch a) (by have := vouch_small str8Ch a; omega) (0) (by decide) (hw1.get mem1)) (by first | exact rep0 | exact rep1 | exact rep2 | exact rep3 | exact rep4 | exact rep5) ?_
       refine jz ?_
       refine jz ?_
       refine jz ?_
       refine jz ?_
       refine jz ?_
       refine jnt ?_
       refine jsr ?_
       refine jy (y_indexAddr_arr rfl rfl (by omega) (by omega) (by simp only [Int.toNat_natCast, Int.reduceSub, Int.reduceAdd, Int.reduceToNat, Nat.reduceMul, Nat.reduceAdd, Nat.zero_add, Nat.mul_one, Nat.zero_mul, Nat.add_zero]; exact rfl)) ?_
       refine jy (y_load_old rfl hx0.1 hx0.2) ?_
       refine jy (y_rem rfl rfl (by omega) (by omega)) ?_
       first | refine jy (y_conv_fits rfl (by simp only [fits]; omega)) ?_
       refine jl_as (u := .int .i64 ((k : Nat) : Int)) (congrArg (Value.int .i64) (by omega)) ?_
       refine jz ?_
       refine jnt ?_
       refine jsr ?_
       refine jz ?_
       refine jz ?_
       refine jpc (goes_func rfl) (fun w1 hw1 => token_any bc str8Tks 9 w1 (hoc.keep hw1).at ((k : Nat) : Int)) ?_
       refine jz ?_
       refine jz ?_
       refine jl_as (u := .string (tokS str8Tks 9 k)) (congrArg Value.string (@tok_in str8Tks 9 ((k : Nat) : Int) ⟨by omega, by omega⟩).1) ?_
       refine jz ?_
       refine jl_as (u := .int .i64 0) (congrArg (Value.int .i64) (@tok_in str8Tks 9 ((k : Nat) : Int) ⟨by omega, by omega⟩).2) ?_
       refine jz ?_
       refine jz ?_
       refine jnt ?_
       refine jsr ?_
       refine jz ?_
       refine jz ?_
       refine jz ?_
       refine jy (y_build (Built.cell rfl rfl rfl (by repeat constructor) (Built.cell rfl rfl rfl (by repeat constructor) (Built.cell rfl rfl rfl (by repeat constructor) Built.nil)))) ?_
       refine jl_m rfl (by decide) rfl (m_alloc) (fun b19 => ?_)
       refine jst ?_
       refine jnt ?_
       refine jsr ?_
       refine jz ?_
       refine jnt ?_
       refine jc_seq ?_
       refine jsr ?_
       refine jz ?_
       refine jnt ?_
       refine jc_block ?_
       refine jc_loop3 (fun (i : Nat) (ad : Option Addr) (cu : Nat) => [(5, .pointer (some ⟨b5, 0, none⟩)), (7, .pointer (some ⟨bk.1, 0, none⟩)), (9, .pointer (some ⟨bc, 0, none⟩)), (11, .string str8Ch), (12, .pointer (some ⟨b12, 0, none⟩)), (13, .int .u64 a), (15, .int .i64 0), (16, .int .i64 ((k : Nat) : Int)), (17, .string (tokS str8Tks 9 k)), (18, .int .i64 0), (19, .pointer (some ⟨b19, 0, none⟩)), (20, .int .u64 (sumF (pdL (cutS seed 50) e1 e2 e3 i))), (21, .int .u64 ((i : Nat) : Int))]) (fun (i : Nat) (ad : Option Addr) (cu : Nat) => fun w' => i ≤ 2 ∧ Hp wc [bk.2] [.row ad ((pdL (cutS seed 50) e1 e2 e3 i)).length cu 45 10 (((pdL (cutS seed 50) e1 e2 e3 i)).flatMap Wn.c), .cells b19 [.int .u64 a, .string (signK (cutS seed 50) 2 0 (vouch str8Ch a)), .string (tokS str8Tks 9 k), .slice ad ((pdL (cutS seed 50) e1 e2 e3 i).length) cu], .cells b12 (Tm.c (pdTm (cutS seed 50) u)), .cells bk.2 [.int .i64 ((i + 1 : Nat) : Int), .int .i64 ((2 ^ 2 : Nat) : Int)]] w') (fun (i : Nat) (ad : Option Addr) (cu : Nat) => 2 - i) 0 none 0 ?_ ?_ ?_
       ·exact ⟨rfl, rfl, rfl, rfl, rfl, rfl, rfl, rfl, rfl, rfl, rfl, lk_int rfl sumF_0.symm, lk_int rfl rfl, trivial⟩
       ·exact fun _ h => ⟨by omega, h.nilrow 45 10⟩
       ·intro i ad cu
        refine jc_and (fun hi => ?_)
        refine jc_seq ?_
        refine jsr ?_
        refine jz ?_
        refine jy (y_lss rfl rfl) ?_
        refine jl_prop (fun h101 => ?_) (fun h101 => ?_)
        ·first
         | (exfalso; omega)
         | (
          have hi2 : i < 2 := by omega
          have hWf := pd_fit (seed := (cutS seed 50)) hin i (by omega)
          have hTk : (pdT e1 e2 e3 i).Fit := ⟨hWf.t.serial, hWf.t.face, hWf.t.wins, hWf.t.many, hWf.t.client⟩
          have hxi : CellO wc [bk.2] b5 (2 + i) (.int .u64 (pdC e2 e3 i)) := by
           rcases (show i = 0 ∨ i = 1 by omega) with rfl | rfl
           ·exact hx2
           ·exact hx3
          have hps := pd_sum (seed := (cutS seed 50)) (b := e1) (d := e3) h2.1 i
          have hpl := pd_len (seed := (cutS seed 50)) (b := e1) (c := e2) (d := e3) i
          refine jnt ?_
          refine jc_true rfl ?_
          refine jc_skip ?_
          refine jq_then ?_
          refine jc_seq ?_
          refine jc_block ?_
          refine jsr ?_
          refine jy (y_indexAddr_arr rfl rfl (by omega) (by omega) (by simp only [Int.toNat_natCast, Int.reduceSub, Int.reduceAdd, Int.reduceToNat, Nat.reduceMul, Nat.reduceAdd, Nat.zero_add, Nat.mul_one, Nat.zero_mul, Nat.add_zero]; exact rfl)) ?_
          refine jy (y_load_old rfl hx1.1 hx1.2) ?_
          refine jy (y_rem rfl rfl (by omega) (by omega)) ?_
          refine jy (y_add_u64 rfl rfl) ?_
          refine jl_as (u := .int .u64 (pdM e1)) (congrArg (Value.int .u64) (by unfold pdM; omega)) ?_
          refine jz ?_
          refine jnt ?_
          refine jc_seq ?_
          refine jc_sched 25 [(0, true), (1, true), (2, true), (3, true), (4, true), (5, true), (6, true), (7, true), (8, true), (9, true), (10, true), (11, true), (12, true), (13, true), (14, true), (15, true), (16, true), (17, true), (18, true), (19, true), (20, true), (21, true), (22, true), (23, true), (24, false)] rfl (by kernel_rfl) (fun _ _ _ _ h => h) (fun _ h => h.drew) ?_
          simp only [pickO, nthO, List.drop_succ_cons, List.drop_zero]
          refine jkz ?_
          refine jkz ?_
          refine jky (y_indexAddr_arr rfl rfl (by omega) (by omega) (by simp only [Int.toNat_natCast, Int.reduceSub, Int.reduceAdd, Int.reduceToNat, Nat.reduceMul, Nat.reduceAdd, Nat.zero_add, Nat.mul_one, Nat.zero_mul, Nat.add_zero]; exact rfl)) ?_
          refine jky (y_load_old rfl hx2.1 hx2.2) ?_
          refine jky (y_rem rfl rfl (by omega) (by omega)) ?_
          refine jky (y_indexAddr_arr rfl rfl (by omega) (by omega) (by simp only [Int.toNat_natCast, Int.reduceSub, Int.reduceAdd, Int.reduceToNat, Nat.reduceMul, Nat.reduceAdd, Nat.zero_add, Nat.mul_one, Nat.zero_mul, Nat.add_zero]; exact rfl)) ?_
          refine jky (y_load_old rfl hx3.1 hx3.2) ?_
          refine jkz ?_
          refine jky (y_add_u64 rfl rfl) ?_
          refine js_as (u := .int .u64 (pdM e1 + 1)) (congrArg (Value.int .u64) (by omega)) ?_
          refine jky (y_rem rfl rfl (by omega) (by omega)) ?_
          refine js_as (u := .int .u64 (pdN e1 e3)) (congrArg (Value.int .u64) (rfl)) ?_
          refine jkz ?_
          refine jkz ?_
          refine jky (y_add_u64 rfl rfl) ?_
          refine js_as (u := .int .u64 (2 + ((i : Nat) : Int))) (congrArg (Value.int .u64) (by omega)) ?_
          refine jky (y_indexAddr_arr (off := 2 + i) rfl rfl (by omega) (by omega) (by omega)) ?_
          refine jky (y_load_old rfl hxi.1 hxi.2) ?_
          refine jky (y_build (Built.cell rfl rfl rfl (by repeat constructor) (Built.cell rfl rfl rfl (by repeat constructor) (Built.cell rfl rfl rfl (by repeat constructor) (Built.cell rfl rfl rfl (by repeat constructor) (Built.cell rfl rfl rfl (by repeat constructor) (Built.cell rfl rfl rfl (by repeat constructor) Built.nil))))))) ?_
          refine jky (y_indexAddr_arr rfl rfl (by omega) (by omega) (by simp only [Int.toNat_natCast, Int.reduceSub, Int.reduceAdd, Int.reduceToNat, Nat.reduceMul, Nat.reduceAdd, Nat.zero_add, Nat.mul_one, Nat.zero_mul, Nat.add_zero]; exact rfl)) ?_
          refine jky (y_load_old rfl hx1.1 hx1.2) ?_
          refine jkz ?_
          refine jky (y_mul_u64 rfl rfl) ?_
          refine js_as (u := .int .u64 (7 * ((i : Nat) : Int))) (congrArg (Value.int .u64) (by omega)) ?_
          refine jky (y_add_u64 rfl rfl) ?_
          refine jkz ?_
          refine jky (y_rem rfl rfl (by omega) (by omega)) ?_
          refine js_as (u := .int .u64 (pdD e1 i)) (congrArg (Value.int .u64) (rfl)) ?_
          refine jky (y_build (Built.agg rfl rfl rfl (by repeat constructor) (Built.cell rfl rfl rfl (by repeat constructor) (Built.cell rfl rfl rfl (by repeat constructor) Built.nil)))) ?_
          refine js_m (by intros; rename_i h; first | exact h | exact h.pop | exact h.pop.pop | exact h.pop.pop.pop | exact h.pop.pop.pop.pop | exact h.pop.pop.pop.pop.pop | exact h.pop.pop.pop.pop.pop.pop | exact h.part .nil) rfl (by decide) rfl (m_alloc) (fun b23 => ?_)
          refine js_nil ?_
          refine jst ?_
          refine jnt ?_
          refine jsr ?_
          refine jz ?_
          refine jz ?_
          refine jz ?_
          refine jz ?_
          refine jpc (goes_func rfl) (fun w1 hw1 => commit_any str8Sl (pdD e1 i) w1 (by decide) hWf.drawn) ?_
          refine jz ?_
          refine jz ?_
          refine jst ?_
          refine jnt ?_
          refine jsr ?_
          refine jz ?_
          refine jz ?_
          refine jz ?_
          refine jpc (goes_func rfl) (fun w1 hw1 => text_any (pdT e1 e2 e3 i) w1 hTk (show str8Ch.size ≤ 1000000000 by decide) (by have := commitS_size str8Sl (pdD e1 i); show (commitS str8Sl (pdD e1 i)).size ≤ _; omega)) ?_
          refine jl_ucallH rfl (by decide) rfl (goes_func rfl) (by rfl) (fun w1 hw1 => ksign_ok [bk.2] bk.1 bk.2 (cutS seed 50) 2 w1 (hkk.keep hw1) (by simp) (by decide) (by omega) (tkText (pdT e1 e2 e3 i)) (by have := tkText_small (pdT e1 e2 e3 i); omega) (i + 1) (by show i + 1 < 4; omega) (hw1.get mem4)) (by first | exact rep0 | exact rep1 | exact rep2 | exact rep3 | exact rep4 | exact rep5) ?_
          refine jz ?_
          refine jz ?_
          refine jl_as (u := .string (pdS (cutS seed 50) e1 e2 e3 i)) rfl ?_
          refine jz ?_
          refine jz ?_
          refine jz ?_
          refine jnt ?_
          refine jsr ?_
          refine jz ?_
          refine jz ?_
          refine jz ?_
          refine jst ?_
          refine jnt ?_
          refine jc_seq ?_
          refine jc_world (fun _ h => h.cast (H' := [.cells b23 (Wn.c (pdW (cutS seed 50) e1 e2 e3 i)), .row ad ((pdL (cutS seed 50) e1 e2 e3 i)).length cu 45 10 (((pdL (cutS seed 50) e1 e2 e3 i)).flatMap Wn.c), .cells b19 [.int .u64 a, .string (signK (cutS seed 50) 2 0 (vouch str8Ch a)), .string (tokS str8Tks 9 k), .slice ad ((pdL (cutS seed 50) e1 e2 e3 i).length) cu], .cells b12 (Tm.c (pdTm (cutS seed 50) u)), .cells bk.2 [.int .i64 ((i + 1 + 1 : Nat) : Int), .int .i64 ((2 ^ 2 : Nat) : Int)]]) rfl) ?_
          cases hI : pdI e1 e2 e3 i
          ·skip
           refine jc_draw (by kernel_rfl) (fun _ h => h.drew) ?_
           refine juz ?_
           refine ju_call rfl (by decide) rfl (goes_func rfl) (fun w1 hw1 => pcall hw1 (kroot_any _ bk.1 bk.2 (cutS seed 50) 2 w1 (hkk.keep hw1))) ?_
           refine juz ?_
           refine ju_call rfl (by decide) rfl (goes_func rfl) (fun w1 hw1 => pcall hw1 (cq (won_any (rootK (cutS seed 50) 2) (pdW (cutS seed 50) e1 e2 e3 i) w1 hWf (show str8Sl.size ≤ 1000000 by decide)) (u := .tuple #[.int .u64 0, .int .i64 13]) (by rw [pd_wonV hin i (by omega), pd_won hin i (by omega), hI] <;> rfl))) ?_
           refine juz ?_
           refine juz ?_
           refine juz ?_
           refine juz ?_
           refine juz ?_
           refine ju_nil ?_
           refine jq_then ?_
           refine jsr ?_
           refine jz ?_
           refine jz ?_
           refine jz ?_
           refine jz ?_
           refine jz ?_
           refine jz ?_
           refine jz ?_
           refine jz ?_
           refine jz ?_
           refine jpc (goes_func rfl) (fun w1 hw1 => cq (wins_any (pdD e1 i) (pdC e2 e3 i) (pdN e1 e3) (pdM e1) w1 hWf.drawn hWf.t.client hWf.t.wins hWf.t.many) (u := .tuple #[.bool false, .int .i64 0]) (by rw [show winsB (pdD e1 i) (pdC e2 e3 i) (pdN e1 e3) (pdM e1) = false from hI, pd_E hin i])) ?_
           refine jz ?_
           refine jz ?_
           refine jl_as (u := .bool false) rfl ?_
           refine jz ?_
           refine jz ?_
           refine jz ?_
           refine jnt ?_
           refine jc_seq ?_
           refine jsr ?_
           refine jz ?_
           refine jy (y_neq rfl rfl) ?_
           refine jl_prop (fun h171 => ?_) (fun h171 => ?_)
           ·first
            | (exfalso; omega)
            | (
             refine jz ?_
             refine jsk ?_
             refine jsk ?_
             refine jy (y_pick_true rfl rfl) ?_
             refine jz ?_
             refine jsk ?_
             refine jsk ?_
             refine jsk ?_
             refine jsk ?_
             refine jy (y_pick_true rfl rfl) ?_
             refine jz ?_
             refine jsk ?_
             refine jsk ?_
             refine jsk ?_
             refine jsk ?_
             refine jsk ?_
             refine jsk ?_
             refine jsk ?_
             refine jsk ?_
             refine jy (y_pick_true rfl rfl) ?_
             refine jz ?_
             refine jsk ?_
             refine jsk ?_
             refine jsk ?_
             refine jsk ?_
             refine jsk ?_
             refine jsk ?_
             refine jy (y_pick_true rfl rfl) ?_
             refine jnt ?_
             refine jc_true rfl ?_
             refine jsr ?_
             refine jz ?_
             refine jnt ?_
             refine jc_ret ?_
             refine jq_then_ret ?_
             refine jq_block_ret ?_
             refine jq_then_ret ?_
             refine jq_then_ret ?_
             refine jq_block_ret ?_
             refine jq_then_ret ?_
             refine jq_ret1 rfl rfl ?_
             exact fun _ hw => ⟨rfl, (hallc.next hw (by repeat first | exact ⟨_, mem0, rfl⟩ | exact ⟨_, mem1, rfl⟩ | exact ⟨_, mem2, rfl⟩ | refine List.forall_mem_cons.2 ⟨?_, ?_⟩ | exact fun _ h => absurd h List.not_mem_nil)).ch⟩
             )
           ·first
            | (exfalso; omega)
            | (
             refine jz ?_
             refine jz ?_
             refine jy (y_neq rfl rfl) ?_
             refine jl_prop (fun h174 => ?_) (fun h174 => ?_)
             ·first
              | (exfalso; omega)
              | (
               refine jy (y_pick_false rfl rfl) ?_
               refine jz ?_
               refine jsk ?_
               refine jsk ?_
               refine jsk ?_
               refine jsk ?_
               refine jy (y_pick_true rfl rfl) ?_
               refine jz ?_
               refine jsk ?_
               refine jsk ?_
               refine jsk ?_
               refine jsk ?_
               refine jsk ?_
               refine jsk ?_
               refine jsk ?_
               refine jsk ?_
               refine jy (y_pick_true rfl rfl) ?_
               refine jz ?_
               refine jsk ?_
               refine jsk ?_
               refine jsk ?_
               refine jsk ?_
               refine jsk ?_
               refine jsk ?_
               refine jy (y_pick_true rfl rfl) ?_
               refine jnt ?_
               refine jc_true rfl ?_
               refine jsr ?_
               refine jz ?_
               refine jnt ?_
               refine jc_ret ?_
               refine jq_then_ret ?_
               refine jq_block_ret ?_
               refine jq_then_ret ?_
               refine jq_then_ret ?_
               refine jq_block_ret ?_
               refine jq_then_ret ?_
               refine jq_ret1 rfl rfl ?_
               exact fun _ hw => ⟨rfl, (hallc.next hw (by repeat first | exact ⟨_, mem0, rfl⟩ | exact ⟨_, mem1, rfl⟩ | exact ⟨_, mem2, rfl⟩ | refine List.forall_mem_cons.2 ⟨?_, ?_⟩ | exact fun _ h => absurd h List.not_mem_nil)).ch⟩
               )
             ·first
              | (exfalso; omega)
              | (
               refine jy (y_pick_false rfl rfl) ?_
               refine jz ?_
               refine jz ?_
               refine jy (y_eql rfl rfl) ?_
               refine jl_prop (fun h178 => ?_) (fun h178 => ?_)
               ·first
                | (exfalso; omega)
                | (
                 refine jz ?_
                 refine jy (y_neq_bool rfl rfl) ?_
                 refine jl_as (u := .bool true) rfl ?_
                 refine jy (y_pick_false rfl rfl) ?_
                 refine jz ?_
                 refine jsk ?_
                 refine jsk ?_
                 refine jsk ?_
                 refine jsk ?_
                 refine jsk ?_
                 refine jsk ?_
                 refine jsk ?_
                 refine jsk ?_
                 refine jy (y_pick_true rfl rfl) ?_
                 refine jz ?_
                 refine jsk ?_
                 refine jsk ?_
                 refine jsk ?_
                 refine jsk ?_
                 refine jsk ?_
                 refine jsk ?_
                 refine jy (y_pick_true rfl rfl) ?_
                 refine jnt ?_
                 refine jc_true rfl ?_
                 refine jsr ?_
                 refine jz ?_
                 refine jnt ?_
                 refine jc_ret ?_
                 refine jq_then_ret ?_
                 refine jq_block_ret ?_
                 refine jq_then_ret ?_
                 refine jq_then_ret ?_
                 refine jq_block_ret ?_
                 refine jq_then_ret ?_
                 refine jq_ret1 rfl rfl ?_
                 exact fun _ hw => ⟨rfl, (hallc.next hw (by repeat first | exact ⟨_, mem0, rfl⟩ | exact ⟨_, mem1, rfl⟩ | exact ⟨_, mem2, rfl⟩ | refine List.forall_mem_cons.2 ⟨?_, ?_⟩ | exact fun _ h => absurd h List.not_mem_nil)).ch⟩
                 )
               ·first
                | (exfalso; omega)
                | (
                 refine jz ?_
                 refine jy (y_neq_bool rfl rfl) ?_
                 refine jl_as (u := .bool false) rfl ?_
                 refine jy (y_pick_false rfl rfl) ?_
                 refine jz ?_
                 refine jz ?_
                 refine jz ?_
                 refine jsk ?_
                 refine jsk ?_
                 refine jsk ?_
                 refine jsk ?_
                 refine jsk ?_
                 refine jy (y_pick_false rfl rfl) ?_
                 refine jy (y_pick_false rfl rfl) ?_
                 refine jz ?_
                 refine jz ?_
                 refine jz ?_
                 refine jz ?_
                 refine jz ?_
                 refine jy (y_neq rfl rfl) ?_
                 refine jl_prop (fun h197 => ?_) (fun h197 => ?_)
                 ·first
                  | (exfalso; omega)
                  | (
                   refine jy (y_pick_true rfl rfl) ?_
                   refine jy (y_pick_false rfl rfl) ?_
                   refine jnt ?_
                   refine jc_true rfl ?_
                   refine jsr ?_
                   refine jz ?_
                   refine jnt ?_
                   refine jc_ret ?_
                   refine jq_then_ret ?_
                   refine jq_block_ret ?_
                   refine jq_then_ret ?_
                   refine jq_then_ret ?_
                   refine jq_block_ret ?_
                   refine jq_then_ret ?_
                   refine jq_ret1 rfl rfl ?_
                   exact fun _ hw => ⟨rfl, (hallc.next hw (by repeat first | exact ⟨_, mem0, rfl⟩ | exact ⟨_, mem1, rfl⟩ | exact ⟨_, mem2, rfl⟩ | refine List.forall_mem_cons.2 ⟨?_, ?_⟩ | exact fun _ h => absurd h List.not_mem_nil)).ch⟩
                   )
                 ·first
                  | (exfalso; omega)
                  | (
                   refine jy (y_pick_true rfl rfl) ?_
                   refine jy (y_pick_false rfl rfl) ?_
                   refine jnt ?_
                   refine jc_false rfl ?_
                   refine jc_skip ?_
                   refine jq_then ?_
                   refine jsr ?_
                   refine jz ?_
                   refine jnt ?_
                   refine jc_false rfl ?_
                   refine jc_skip ?_
                   refine jq_block ?_
                   refine jq_then ?_
                   refine jc_region ?_
                   refine jz ?_
                   refine jy (y_add_u64 rfl rfl) ?_
                   refine jz ?_
                   refine jl_nil ?_
                   refine jq_round3 (i := i) (j := ad) (l := cu) (i + 1) ad cu ?_ ?_ ?_
                   ·omega
                   ·exact ⟨rfl, rfl, rfl, rfl, rfl, rfl, rfl, rfl, rfl, rfl, rfl, lk_int rfl (by rw [pd_no hI]), lk_int rfl (by omega), trivial⟩
                   ·exact fun _ h => ⟨by omega, h.pop.cast (by rw [pd_no hI])⟩
                   )
                 )
               )
             )
          ·skip
           refine jc_draw (by kernel_rfl) (fun _ h => h.drew) ?_
           refine juz ?_
           refine ju_call rfl (by decide) rfl (goes_func rfl) (fun w1 hw1 => pcall hw1 (kroot_any _ bk.1 bk.2 (cutS seed 50) 2 w1 (hkk.keep hw1))) ?_
           refine juz ?_
           refine ju_call rfl (by decide) rfl (goes_func rfl) (fun w1 hw1 => pcall hw1 (cq (won_any (rootK (cutS seed 50) 2) (pdW (cutS seed 50) e1 e2 e3 i) w1 hWf (show str8Sl.size ≤ 1000000 by decide)) (u := .tuple #[.int .u64 (e2 % 1000), .int .i64 0]) (by rw [pd_wonV hin i (by omega), pd_won hin i (by omega), hI] <;> rfl))) ?_
           refine juz ?_
           refine juz ?_
           refine juz ?_
           refine juz ?_
           refine juz ?_
           refine ju_nil ?_
           refine jq_then ?_
           refine jsr ?_
           refine jz ?_
           refine jz ?_
           refine jz ?_
           refine jz ?_
           refine jz ?_
           refine jz ?_
           refine jz ?_
           refine jz ?_
           refine jz ?_
           refine jpc (goes_func rfl) (fun w1 hw1 => cq (wins_any (pdD e1 i) (pdC e2 e3 i) (pdN e1 e3) (pdM e1) w1 hWf.drawn hWf.t.client hWf.t.wins hWf.t.many) (u := .tuple #[.bool true, .int .i64 0]) (by rw [show winsB (pdD e1 i) (pdC e2 e3 i) (pdN e1 e3) (pdM e1) = true from hI, pd_E hin i])) ?_
           refine jz ?_
           refine jz ?_
           refine jl_as (u := .bool true) rfl ?_
           refine jz ?_
           refine jz ?_
           refine jz ?_
           refine jnt ?_
           refine jc_seq ?_
           refine jsr ?_
           refine jz ?_
           refine jy (y_neq rfl rfl) ?_
           refine jl_prop (fun h171 => ?_) (fun h171 => ?_)
           ·first
            | (exfalso; omega)
            | (
             refine jz ?_
             refine jsk ?_
             refine jsk ?_
             refine jy (y_pick_true rfl rfl) ?_
             refine jz ?_
             refine jsk ?_
             refine jsk ?_
             refine jsk ?_
             refine jsk ?_
             refine jy (y_pick_true rfl rfl) ?_
             refine jz ?_
             refine jsk ?_
             refine jsk ?_
             refine jsk ?_
             refine jsk ?_
             refine jsk ?_
             refine jsk ?_
             refine jsk ?_
             refine jsk ?_
             refine jy (y_pick_true rfl rfl) ?_
             refine jz ?_
             refine jsk ?_
             refine jsk ?_
             refine jsk ?_
             refine jsk ?_
             refine jsk ?_
             refine jsk ?_
             refine jy (y_pick_true rfl rfl) ?_
             refine jnt ?_
             refine jc_true rfl ?_
             refine jsr ?_
             refine jz ?_
             refine jnt ?_
             refine jc_ret ?_
             refine jq_then_ret ?_
             refine jq_block_ret ?_
             refine jq_then_ret ?_
             refine jq_then_ret ?_
             refine jq_block_ret ?_
             refine jq_then_ret ?_
             refine jq_ret1 rfl rfl ?_
             exact fun _ hw => ⟨rfl, (hallc.next hw (by repeat first | exact ⟨_, mem0, rfl⟩ | exact ⟨_, mem1, rfl⟩ | exact ⟨_, mem2, rfl⟩ | refine List.forall_mem_cons.2 ⟨?_, ?_⟩ | exact fun _ h => absurd h List.not_mem_nil)).ch⟩
             )
           ·first
            | (exfalso; omega)
            | (
             refine jz ?_
             refine jz ?_
             refine jy (y_neq rfl rfl) ?_
             refine jl_prop (fun h174 => ?_) (fun h174 => ?_)
             ·first
              | (exfalso; omega)
              | (
               refine jy (y_pick_false rfl rfl) ?_
               refine jz ?_
               refine jsk ?_
               refine jsk ?_
               refine jsk ?_
               refine jsk ?_
               refine jy (y_pick_true rfl rfl) ?_
               refine jz ?_
               refine jsk ?_
               refine jsk ?_
               refine jsk ?_
               refine jsk ?_
               refine jsk ?_
               refine jsk ?_
               refine jsk ?_
               refine jsk ?_
               refine jy (y_pick_true rfl rfl) ?_
               refine jz ?_
               refine jsk ?_
               refine jsk ?_
               refine jsk ?_
               refine jsk ?_
               refine jsk ?_
               refine jsk ?_
               refine jy (y_pick_true rfl rfl) ?_
               refine jnt ?_
               refine jc_true rfl ?_
               refine jsr ?_
               refine jz ?_
               refine jnt ?_
               refine jc_ret ?_
               refine jq_then_ret ?_
               refine jq_block_ret ?_
               refine jq_then_ret ?_
               refine jq_then_ret ?_
               refine jq_block_ret ?_
               refine jq_then_ret ?_
               refine jq_ret1 rfl rfl ?_
               exact fun _ hw => ⟨rfl, (hallc.next hw (by repeat first | exact ⟨_, mem0, rfl⟩ | exact ⟨_, mem1, rfl⟩ | exact ⟨_, mem2, rfl⟩ | refine List.forall_mem_cons.2 ⟨?_, ?_⟩ | exact fun _ h => absurd h List.not_mem_nil)).ch⟩
               )
             ·first
              | (exfalso; omega)
              | (
               refine jy (y_pick_false rfl rfl) ?_
               refine jz ?_
               refine jz ?_
               refine jy (y_eql rfl rfl) ?_
               refine jl_prop (fun h178 => ?_) (fun h178 => ?_)
               ·first
                | (exfalso; omega)
                | (
                 refine jz ?_
                 refine jy (y_neq_bool rfl rfl) ?_
                 refine jl_as (u := .bool false) rfl ?_
                 refine jy (y_pick_false rfl rfl) ?_
                 refine jz ?_
                 refine jz ?_
                 refine jz ?_
                 refine jz ?_
                 refine jz ?_
                 refine jz ?_
                 refine jz ?_
                 refine jl_as (u := .int .u64 (e2 % 1000)) (congrArg (Value.int .u64) (rfl)) ?_
                 refine jy (y_neq rfl rfl) ?_
                 refine jl_prop (fun h189 => ?_) (fun h189 => ?_)
                 ·first
                  | (exfalso; omega)
                  | (
                   refine jy (y_pick_true rfl rfl) ?_
                   refine jy (y_pick_false rfl rfl) ?_
                   refine jz ?_
                   refine jsk ?_
                   refine jsk ?_
                   refine jsk ?_
                   refine jsk ?_
                   refine jsk ?_
                   refine jsk ?_
                   refine jy (y_pick_true rfl rfl) ?_
                   refine jnt ?_
                   refine jc_true rfl ?_
                   refine jsr ?_
                   refine jz ?_
                   refine jnt ?_
                   refine jc_ret ?_
                   refine jq_then_ret ?_
                   refine jq_block_ret ?_
                   refine jq_then_ret ?_
                   refine jq_then_ret ?_
                   refine jq_block_ret ?_
                   refine jq_then_ret ?_
                   refine jq_ret1 rfl rfl ?_
                   exact fun _ hw => ⟨rfl, (hallc.next hw (by repeat first | exact ⟨_, mem0, rfl⟩ | exact ⟨_, mem1, rfl⟩ | exact ⟨_, mem2, rfl⟩ | refine List.forall_mem_cons.2 ⟨?_, ?_⟩ | exact fun _ h => absurd h List.not_mem_nil)).ch⟩
                   )
                 ·first
                  | (exfalso; omega)
                  | (
                   refine jy (y_pick_true rfl rfl) ?_
                   refine jy (y_pick_false rfl rfl) ?_
                   refine jz ?_
                   refine jz ?_
                   refine jz ?_
                   refine jz ?_
                   refine jsk ?_
                   refine jsk ?_
                   refine jy (y_pick_false rfl rfl) ?_
                   refine jy (y_pick_false rfl rfl) ?_
                   refine jnt ?_
                   refine jc_false rfl ?_
                   refine jc_skip ?_
                   refine jq_then ?_
                   refine jsr ?_
                   refine jz ?_
                   refine jnt ?_
                   refine jc_true rfl ?_
                   refine jsr ?_
                   refine jz ?_
                   refine jz ?_
                   refine jy (y_add_u64 rfl rfl) ?_
                   refine jl_as (u := .int .u64 (sumF (pdL (cutS seed 50) e1 e2 e3 i) + e2 % 1000)) (congrArg (Value.int .u64) (by omega)) ?_
                   refine jz ?_
                   refine jnt ?_
                   refine jc_region ?_
                   refine jz ?_
                   refine jz ?_
                   refine jz ?_
                   refine jl_m rfl (by decide) rfl (m_buildSlice (size := 10) (by decide) (Built.agg rfl rfl rfl (by repeat constructor) Built.nil)) (fun b207 => ?_)
                   refine jl_m2 rfl (by decide) rfl (m_append rfl rfl (by first | exact del0 | exact del1 | exact del2 | exact del3 | exact del4) (by first | exact del0 | exact del1 | exact del2 | exact del3 | exact del4) rfl (by omega) (by omega)) (fun a208 c208 => ?_)
                   refine jz ?_
                   refine jst ?_
                   refine jl_nil ?_
                   refine jq_block ?_
                   refine jq_then ?_
                   refine jc_region ?_
                   refine jz ?_
                   refine jy (y_add_u64 rfl rfl) ?_
                   refine jz ?_
                   refine jl_nil ?_
                   refine jq_round3 (i := i) (j := ad) (l := cu) (i + 1) a208 c208 ?_ ?_ ?_
                   ·omega
                   ·exact ⟨rfl, rfl, rfl, rfl, rfl, rfl, rfl, rfl, rfl, rfl, rfl, lk_int rfl (by rw [pd_yes hI, sumF_snoc]; rfl), lk_int rfl (by omega), trivial⟩
                   ·exact fun _ h => ⟨by omega, (h.part (F := [.row a208 ((pdL (cutS seed 50) e1 e2 e3 i).length + 1) c208 45 10 ((pdL (cutS seed 50) e1 e2 e3 i).flatMap Wn.c ++ Wn.c (pdW (cutS seed 50) e1 e2 e3 i)), .cells b19 [.int .u64 a, .string (signK (cutS seed 50) 2 0 (vouch str8Ch a)), .string (tokS str8Tks 9 k), .slice a208 ((pdL (cutS seed 50) e1 e2 e3 i).length + 1) c208], .cells b12 (Tm.c (pdTm (cutS seed 50) u)), .cells bk.2 [.int .i64 ((i + 1 + 1 : Nat) : Int), .int .i64 ((2 ^ 2 : Nat) : Int)]]) (.cons (by first | exact del0 | exact del1 | exact del2 | exact del3 | exact del4) (.cons (by first | exact del0 | exact del1 | exact del2 | exact del3 | exact del4) (.cons (by first | exact del0 | exact del1 | exact del2 | exact del3 | exact del4) (.cons (by first | exact del0 | exact del1 | exact del2 | exact del3 | exact del4) .nil))))).cast (by rw [pd_yes hI]; simp)⟩
                   )
                 )
               ·first
                | (exfalso; omega)
                | (
                 refine jz ?_
                 refine jy (y_neq_bool rfl rfl) ?_
                 refine jl_as (u := .bool true) rfl ?_
                 refine jy (y_pick_false rfl rfl) ?_
                 refine jz ?_
                 refine jsk ?_
                 refine jsk ?_
                 refine jsk ?_
                 refine jsk ?_
                 refine jsk ?_
                 refine jsk ?_
                 refine jsk ?_
                 refine jsk ?_
                 refine jy (y_pick_true rfl rfl) ?_
                 refine jz ?_
                 refine jsk ?_
                 refine jsk ?_
                 refine jsk ?_
                 refine jsk ?_
                 refine jsk ?_
                 refine jsk ?_
                 refine jy (y_pick_true rfl rfl) ?_
                 refine jnt ?_
                 refine jc_true rfl ?_
                 refine jsr ?_
                 refine jz ?_
                 refine jnt ?_
                 refine jc_ret ?_
                 refine jq_then_ret ?_
                 refine jq_block_ret ?_
                 refine jq_then_ret ?_
                 refine jq_then_ret ?_
                 refine jq_block_ret ?_
                 refine jq_then_ret ?_
                 refine jq_ret1 rfl rfl ?_
                 exact fun _ hw => ⟨rfl, (hallc.next hw (by repeat first | exact ⟨_, mem0, rfl⟩ | exact ⟨_, mem1, rfl⟩ | exact ⟨_, mem2, rfl⟩ | refine List.forall_mem_cons.2 ⟨?_, ?_⟩ | exact fun _ h => absurd h List.not_mem_nil)).ch⟩
                 )
               )
             )
          )
        ·first
         | (exfalso; omega)
         | (
          refine jnt ?_
          refine jc_false rfl ?_
          refine jc_exit ?_
          refine jq_then_exit ?_
          refine jq_then_exit ?_
          refine jq_hit ?_
          refine jq_then ?_
          refine jc_seq ?_
          have hie : i = 2 := by omega
          subst hie
          have hps := pd_sum (seed := (cutS seed 50)) (b := e1) (d := e3) h2.1 2
          obtain ⟨l, hl⟩ : ∃ l, pdL (cutS seed 50) e1 e2 e3 2 = l := ⟨_, rfl⟩
          have hlf : ∀ x ∈ l, x.Fit := by rw [← hl]; exact pdL_fit hin
          have hll : l.length ≤ 2 := by rw [← hl]; exact pd_len 2
          have hfa : fits .u64 a := by simp only [fits]; omega
          rw [hl] at hps
          obtain ⟨f, hf⟩ : ∃ f, sumF l = f := ⟨_, rfl⟩
          rw [hf] at hps
          have hW0 : WorthIs (pdTm (cutS seed 50) u) (pdP (cutS seed 50) a (tokS str8Tks 9 k) l) (a + n * u + f) := .of (pd_worth (t := (pdTm (cutS seed 50) u)) (p := (pdP (cutS seed 50) a (tokS str8Tks 9 k) l)) (a := a) (u := u) (l := l) (n := 2) (b := e1) (c := e2) (d := e3) (seed := (cutS seed 50)) rfl hin (by omega) hl.symm (by decide) rfl (.inr (tokS_size _ _ _)) (pd_tok (pdP (cutS seed 50) a (tokS str8Tks 9 k) l) (by omega) (by omega) rfl).1 ⟨(pd_tok (pdP (cutS seed 50) a (tokS str8Tks 9 k) l) (by omega) (by omega) rfl).2.2.1, (pd_tok (pdP (cutS seed 50) a (tokS str8Tks 9 k) l) (by omega) (by omega) rfl).2.2.2⟩) (by rw [(pd_tok (pdP (cutS seed 50) a (tokS str8Tks 9 k) l) (by omega) (by omega) rfl).2.1, hn, hf])
          have hW1 : WorthIs (pdTm (cutS seed 50) u) (pdP (cutS seed 50) a ⟨#[]⟩ l) (a + f) := .of (pd_worth (t := (pdTm (cutS seed 50) u)) (p := (pdP (cutS seed 50) a ⟨#[]⟩ l)) (a := a) (u := u) (l := l) (n := 2) (b := e1) (c := e2) (d := e3) (seed := (cutS seed 50)) rfl hin (by omega) hl.symm (by decide) rfl (.inl rfl) (pd_bare (pdP (cutS seed 50) a ⟨#[]⟩ l) rfl).1 (by rw [(pd_bare (pdP (cutS seed 50) a ⟨#[]⟩ l) rfl).2]; decide)) (by rw [(pd_bare (pdP (cutS seed 50) a ⟨#[]⟩ l) rfl).2, hf]; omega)
          have hW2 : WorthIs (pdTm (cutS seed 50) u) (pdP (cutS seed 50) a ⟨#[]⟩ []) a := .of (pd_worth (t := (pdTm (cutS seed 50) u)) (p := (pdP (cutS seed 50) a ⟨#[]⟩ [])) (a := a) (u := u) (l := []) (n := 0) (b := e1) (c := e2) (d := e3) (seed := (cutS seed 50)) rfl hin (by omega) rfl (by decide) rfl (.inl rfl) (pd_bare (pdP (cutS seed 50) a ⟨#[]⟩ []) rfl).1 (by rw [(pd_bare (pdP (cutS seed 50) a ⟨#[]⟩ []) rfl).2]; decide)) (by rw [(pd_bare (pdP (cutS seed 50) a ⟨#[]⟩ []) rfl).2, sumF_nil]; omega)
          refine jc_weaken (F := [(5, .pointer (some ⟨b5, 0, none⟩)), (7, .pointer (some ⟨bk.1, 0, none⟩)), (9, .pointer (some ⟨bc, 0, none⟩)), (11, .string str8Ch), (12, .pointer (some ⟨b12, 0, none⟩)), (13, .int .u64 a), (15, .int .i64 0), (16, .int .i64 ((k : Nat) : Int)), (17, .string (tokS str8Tks 9 k)), (18, .int .i64 0), (19, .pointer (some ⟨b19, 0, none⟩)), (20, .int .u64 f)]) ⟨rfl, rfl, rfl, rfl, rfl, rfl, rfl, rfl, rfl, rfl, rfl, lk_int rfl (by rw [hl, hf]), trivial⟩ ?_
          refine jc_world (fun _ h => h.cast (H' := [.row ad (l).length cu 45 10 ((l).flatMap Wn.c), .cells b19 [.int .u64 a, .string (signK (cutS seed 50) 2 0 (vouch str8Ch a)), .string (tokS str8Tks 9 k), .slice ad (l.length) cu], .cells b12 (Tm.c (pdTm (cutS seed 50) u)), .cells bk.2 [.int .i64 ((2 + 1 : Nat) : Int), .int .i64 ((2 ^ 2 : Nat) : Int)]]) (by rw [hl])) ?_
          refine jc_region ?_
          refine jz ?_
          refine jpc (goes_func rfl) (fun w1 hw1 => anchor_any bc str8Tks 9 w1 (hoc.keep hw1).at) ?_
          refine jz ?_
          refine jpc (goes_func rfl) (fun w1 hw1 => cq (count_any (tokS str8Tks 9 0) (tokS str8Tks 9 k) 9 w1 (by simp only [fits]; decide)) (u := .tuple #[.int .i64 n, .int .i64 0]) (by rw [hn, hct.1])) ?_
          refine jz ?_
          refine jz ?_
          refine jz ?_
          refine jz ?_
          refine jz ?_
          refine jnt ?_
          refine jsr ?_
          refine jz ?_
          refine jz ?_
          refine jpc (goes_func rfl) (fun w1 hw1 => cq (worth_any (pdTm (cutS seed 50) u) (pdP (cutS seed 50) a (tokS str8Tks 9 k) l) ad cu w1 (ElAt.of_row (l := l) (c := Wn.c) (fun _ => rfl) rfl (hw1.get mem0)) hTf ⟨hfa, hlf⟩ (by show (l : List Wn).length ≤ 1000; first | decide | omega) (by show str8Ch.size ≤ _; decide)) (u := .tuple #[.int .u64 (a + n * u + f), .int .i64 0]) (by rw [hW0.e, hW0.v])) ?_
          refine jz ?_
          refine jz ?_
          refine jz ?_
          refine jz ?_
          refine jz ?_
          refine jnt ?_
          refine jc_seq ?_
          refine jsr ?_
          refine jz ?_
          refine jy (y_neq rfl rfl) ?_
          refine jl_prop (fun h224 => ?_) (fun h224 => ?_)
          ·first
           | (exfalso; omega)
           | (
            refine jz ?_
            refine jsk ?_
            refine jsk ?_
            refine jy (y_pick_true rfl rfl) ?_
            refine jz ?_
            refine jsk ?_
            refine jsk ?_
            refine jy (y_pick_true rfl rfl) ?_
            refine jz ?_
            refine jsk ?_
            refine jsk ?_
            refine jy (y_pick_true rfl rfl) ?_
            refine jz ?_
            refine jsk ?_
            refine jsk ?_
            refine jsk ?_
            refine jy (y_pick_true rfl rfl) ?_
            refine jz ?_
            refine jsk ?_
            refine jsk ?_
            refine jsk ?_
            refine jsk ?_
            refine jsk ?_
            refine jsk ?_
            refine jsk ?_
            refine jsk ?_
            refine jsk ?_
            refine jsk ?_
            refine jsk ?_
            refine jy (y_pick_true rfl rfl) ?_
            refine jnt ?_
            refine jc_true rfl ?_
            refine jsr ?_
            refine jz ?_
            refine jnt ?_
            refine jc_ret ?_
            refine jq_then_ret ?_
            refine jq_ret1 rfl rfl ?_
            exact fun _ hw => ⟨rfl, (hallc.next hw (by repeat first | exact ⟨_, mem0, rfl⟩ | exact ⟨_, mem1, rfl⟩ | exact ⟨_, mem2, rfl⟩ | refine List.forall_mem_cons.2 ⟨?_, ?_⟩ | exact fun _ h => absurd h List.not_mem_nil)).ch⟩
            )
          ·first
           | (exfalso; omega)
           | (
            refine jz ?_
            refine jz ?_
            refine jy (y_neq rfl rfl) ?_
            refine jl_prop (fun h227 => ?_) (fun h227 => ?_)
            ·first
             | (exfalso; omega)
             | (
              refine jy (y_pick_false rfl rfl) ?_
              refine jz ?_
              refine jsk ?_
              refine jsk ?_
              refine jy (y_pick_true rfl rfl) ?_
              refine jz ?_
              refine jsk ?_
              refine jsk ?_
              refine jy (y_pick_true rfl rfl) ?_
              refine jz ?_
              refine jsk ?_
              refine jsk ?_
              refine jsk ?_
              refine jy (y_pick_true rfl rfl) ?_
              refine jz ?_
              refine jsk ?_
              refine jsk ?_
              refine jsk ?_
              refine jsk ?_
              refine jsk ?_
              refine jsk ?_
              refine jsk ?_
              refine jsk ?_
              refine jsk ?_
              refine jsk ?_
              refine jsk ?_
              refine jy (y_pick_true rfl rfl) ?_
              refine jnt ?_
              refine jc_true rfl ?_
              refine jsr ?_
              refine jz ?_
              refine jnt ?_
              refine jc_ret ?_
              refine jq_then_ret ?_
              refine jq_ret1 rfl rfl ?_
              exact fun _ hw => ⟨rfl, (hallc.next hw (by repeat first | exact ⟨_, mem0, rfl⟩ | exact ⟨_, mem1, rfl⟩ | exact ⟨_, mem2, rfl⟩ | refine List.forall_mem_cons.2 ⟨?_, ?_⟩ | exact fun _ h => absurd h List.not_mem_nil)).ch⟩
              )
            ·first
             | (exfalso; omega)
             | (
              refine jy (y_pick_false rfl rfl) ?_
              refine jz ?_
              refine jz ?_
              refine jy (y_neq rfl rfl) ?_
              refine jl_prop (fun h231 => ?_) (fun h231 => ?_)
              ·first
               | (exfalso; omega)
               | (
                refine jy (y_pick_false rfl rfl) ?_
                refine jz ?_
                refine jsk ?_
                refine jsk ?_
                refine jy (y_pick_true rfl rfl) ?_
                refine jz ?_
                refine jsk ?_
                refine jsk ?_
                refine jsk ?_
                refine jy (y_pick_true rfl rfl) ?_
                refine jz ?_
                refine jsk ?_
                refine jsk ?_
                refine jsk ?_
                refine jsk ?_
                refine jsk ?_
                refine jsk ?_
                refine jsk ?_
                refine jsk ?_
                refine jsk ?_
                refine jsk ?_
                refine jsk ?_
                refine jy (y_pick_true rfl rfl) ?_
                refine jnt ?_
                refine jc_true rfl ?_
                refine jsr ?_
                refine jz ?_
                refine jnt ?_
                refine jc_ret ?_
                refine jq_then_ret ?_
                refine jq_ret1 rfl rfl ?_
                exact fun _ hw => ⟨rfl, (hallc.next hw (by repeat first | exact ⟨_, mem0, rfl⟩ | exact ⟨_, mem1, rfl⟩ | exact ⟨_, mem2, rfl⟩ | refine List.forall_mem_cons.2 ⟨?_, ?_⟩ | exact fun _ h => absurd h List.not_mem_nil)).ch⟩
                )
              ·first
               | (exfalso; omega)
               | (
                refine jy (y_pick_false rfl rfl) ?_
                refine jz ?_
                refine jz ?_
                refine jy (y_neq rfl rfl) ?_
                refine jl_prop (fun h235 => ?_) (fun h235 => ?_)
                ·first
                 | (exfalso; omega)
                 | (
                  refine jy (y_pick_false rfl rfl) ?_
                  refine jz ?_
                  refine jsk ?_
                  refine jsk ?_
                  refine jsk ?_
                  refine jy (y_pick_true rfl rfl) ?_
                  refine jz ?_
                  refine jsk ?_
                  refine jsk ?_
                  refine jsk ?_
                  refine jsk ?_
                  refine jsk ?_
                  refine jsk ?_
                  refine jsk ?_
                  refine jsk ?_
                  refine jsk ?_
                  refine jsk ?_
                  refine jsk ?_
                  refine jy (y_pick_true rfl rfl) ?_
                  refine jnt ?_
                  refine jc_true rfl ?_
                  refine jsr ?_
                  refine jz ?_
                  refine jnt ?_
                  refine jc_ret ?_
                  refine jq_then_ret ?_
                  refine jq_ret1 rfl rfl ?_
                  exact fun _ hw => ⟨rfl, (hallc.next hw (by repeat first | exact ⟨_, mem0, rfl⟩ | exact ⟨_, mem1, rfl⟩ | exact ⟨_, mem2, rfl⟩ | refine List.forall_mem_cons.2 ⟨?_, ?_⟩ | exact fun _ h => absurd h List.not_mem_nil)).ch⟩
                  )
                ·first
                 | (exfalso; omega)
                 | (
                  refine jy (y_pick_false rfl rfl) ?_
                  refine jz ?_
                  refine jz ?_
                  refine jz ?_
                  refine jy (y_gtr rfl rfl) ?_
                  refine jl_prop (fun h240 => ?_) (fun h240 => ?_)
                  ·first
                   | (exfalso; omega)
                   | (
                    refine jy (y_pick_false rfl rfl) ?_
                    refine jz ?_
                    refine jsk ?_
                    refine jsk ?_
                    refine jsk ?_
                    refine jsk ?_
                    refine jsk ?_
                    refine jsk ?_
                    refine jsk ?_
                    refine jsk ?_
                    refine jsk ?_
                    refine jsk ?_
                    refine jsk ?_
                    refine jy (y_pick_true rfl rfl) ?_
                    refine jnt ?_
                    refine jc_true rfl ?_
                    refine jsr ?_
                    refine jz ?_
                    refine jnt ?_
                    refine jc_ret ?_
                    refine jq_then_ret ?_
                    refine jq_ret1 rfl rfl ?_
                    exact fun _ hw => ⟨rfl, (hallc.next hw (by repeat first | exact ⟨_, mem0, rfl⟩ | exact ⟨_, mem1, rfl⟩ | exact ⟨_, mem2, rfl⟩ | refine List.forall_mem_cons.2 ⟨?_, ?_⟩ | exact fun _ h => absurd h List.not_mem_nil)).ch⟩
                    )
                  ·first
                   | (exfalso; omega)
                   | (
                    refine jy (y_pick_false rfl rfl) ?_
                    refine jz ?_
                    refine jz ?_
                    refine jz ?_
                    refine jz ?_
                    first | refine jy (y_conv_fits rfl (by simp only [fits]; omega)) ?_ | refine jy (y_conv_u64 rfl) ?_
                    refine jz ?_
                    refine jz ?_
                    refine jl_as (u := .int .u64 u) (congrArg (Value.int .u64) (rfl)) ?_
                    refine jy (y_mul_u64 rfl rfl) ?_
                    refine jl_as (u := .int .u64 (n * u)) (congrArg (Value.int .u64) (by omega)) ?_
                    refine jy (y_add_u64 rfl rfl) ?_
                    refine jl_as (u := .int .u64 (a + n * u)) (congrArg (Value.int .u64) (by omega)) ?_
                    refine jz ?_
                    refine jy (y_add_u64 rfl rfl) ?_
                    refine jl_as (u := .int .u64 (a + n * u + f)) (congrArg (Value.int .u64) (by omega)) ?_
                    refine jy (y_neq rfl rfl) ?_
                    refine jl_prop (fun h253 => ?_) (fun h253 => ?_)
                    ·first
                     | (exfalso; omega)
                     | (
                      refine jy (y_pick_false rfl rfl) ?_
                      refine jnt ?_
                      refine jc_true rfl ?_
                      refine jsr ?_
                      refine jz ?_
                      refine jnt ?_
                      refine jc_ret ?_
                      refine jq_then_ret ?_
                      refine jq_ret1 rfl rfl ?_
                      exact fun _ hw => ⟨rfl, (hallc.next hw (by repeat first | exact ⟨_, mem0, rfl⟩ | exact ⟨_, mem1, rfl⟩ | exact ⟨_, mem2, rfl⟩ | refine List.forall_mem_cons.2 ⟨?_, ?_⟩ | exact fun _ h => absurd h List.not_mem_nil)).ch⟩
                      )
                    ·first
                     | (exfalso; omega)
                     | (
                      refine jy (y_pick_false rfl rfl) ?_
                      refine jnt ?_
                      refine jc_false rfl ?_
                      refine jc_skip ?_
                      refine jq_then ?_
                      refine jsr ?_
                      refine jz ?_
                      refine jst ?_
                      refine jnt ?_
                      refine jsr ?_
                      refine jz ?_
                      refine jz ?_
                      refine jpc (goes_func rfl) (fun w1 hw1 => cq (worth_any (pdTm (cutS seed 50) u) (pdP (cutS seed 50) a ⟨#[]⟩ l) ad cu w1 (ElAt.of_row (l := l) (c := Wn.c) (fun _ => rfl) rfl (hw1.get mem0)) hTf ⟨hfa, hlf⟩ (by show (l : List Wn).length ≤ 1000; first | decide | omega) (by show str8Ch.size ≤ _; decide)) (u := .tuple #[.int .u64 (a + f), .int .i64 0]) (by rw [hW1.e, hW1.v])) ?_
                      refine jz ?_
                      refine jz ?_
                      refine jz ?_
                      refine jz ?_
                      refine jz ?_
                      refine jnt ?_
                      refine jsr ?_
                      refine jz ?_
                      refine jst ?_
                      refine jnt ?_
                      refine jsr ?_
                      refine jz ?_
                      refine jz ?_
                      refine jpc (goes_func rfl) (fun w1 hw1 => cq (worth_any (pdTm (cutS seed 50) u) (pdP (cutS seed 50) a ⟨#[]⟩ []) none 0 w1 el_nil hTf ⟨hfa, (fun x hx => by cases hx)⟩ (by show ([] : List Wn).length ≤ 1000; first | decide | omega) (by show str8Ch.size ≤ _; decide)) (u := .tuple #[.int .u64 a, .int .i64 0]) (by rw [hW2.e, hW2.v])) ?_
                      refine jz ?_
                      refine jz ?_
                      refine jz ?_
                      refine jz ?_
                      refine jz ?_
                      refine jnt ?_
                      refine jsr ?_
                      refine jz ?_
                      refine jy (y_eql rfl rfl) ?_
                      refine jl_prop (fun h270 => ?_) (fun h270 => ?_)
                      ·first
                       | (exfalso; omega)
                       | (
                        refine jz ?_
                        refine jz ?_
                        refine jy (y_eql rfl rfl) ?_
                        refine jl_prop (fun h273 => ?_) (fun h273 => ?_)
                        ·first
                         | (exfalso; omega)
                         | (
                          refine jy (y_pick_true rfl rfl) ?_
                          refine jz ?_
                          refine jz ?_
                          refine jz ?_
                          refine jz ?_
                          refine jy (y_add_u64 rfl rfl) ?_
                          refine jy (y_eql rfl rfl) ?_
                          refine jl_prop (fun h280 => ?_) (fun h280 => ?_)
                          ·first
                           | (exfalso; omega)
                           | (
                            refine jy (y_pick_true rfl rfl) ?_
                            refine jz ?_
                            refine jz ?_
                            refine jz ?_
                            refine jy (y_eql rfl rfl) ?_
                            refine jl_prop (fun h285 => ?_) (fun h285 => ?_)
                            ·first
                             | (exfalso; omega)
                             | (
                              refine jy (y_pick_true rfl rfl) ?_
                              refine jz ?_
                              refine jpc (goes_func rfl) (fun w1 hw1 => fixed8_any w1) ?_
                              refine jy (y_pick_true rfl rfl) ?_
                              refine jz ?_
                              refine jnt ?_
                              refine jc_ret ?_
                              refine jq_ret1 rfl rfl ?_
                              exact fun _ hw => ⟨rfl, (hallc.next hw (by repeat first | exact ⟨_, mem0, rfl⟩ | exact ⟨_, mem1, rfl⟩ | exact ⟨_, mem2, rfl⟩ | refine List.forall_mem_cons.2 ⟨?_, ?_⟩ | exact fun _ h => absurd h List.not_mem_nil)).ch⟩
                              )
                            ·first
                             | (exfalso; omega)
                             | (
                              refine jy (y_pick_true rfl rfl) ?_
                              refine jz ?_
                              refine jsk ?_
                              refine jy (y_pick_false rfl rfl) ?_
                              refine jz ?_
                              refine jnt ?_
                              refine jc_ret ?_
                              refine jq_ret1 rfl rfl ?_
                              exact fun _ hw => ⟨rfl, (hallc.next hw (by repeat first | exact ⟨_, mem0, rfl⟩ | exact ⟨_, mem1, rfl⟩ | exact ⟨_, mem2, rfl⟩ | refine List.forall_mem_cons.2 ⟨?_, ?_⟩ | exact fun _ h => absurd h List.not_mem_nil)).ch⟩
                              )
                            )
                          ·first
                           | (exfalso; omega)
                           | (
                            refine jy (y_pick_true rfl rfl) ?_
                            refine jz ?_
                            refine jsk ?_
                            refine jsk ?_
                            refine jsk ?_
                            refine jy (y_pick_false rfl rfl) ?_
                            refine jz ?_
                            refine jsk ?_
                            refine jy (y_pick_false rfl rfl) ?_
                            refine jz ?_
                            refine jnt ?_
                            refine jc_ret ?_
                            refine jq_ret1 rfl rfl ?_
                            exact fun _ hw => ⟨rfl, (hallc.next hw (by repeat first | exact ⟨_, mem0, rfl⟩ | exact ⟨_, mem1, rfl⟩ | exact ⟨_, mem2, rfl⟩ | refine List.forall_mem_cons.2 ⟨?_, ?_⟩ | exact fun _ h => absurd h List.not_mem_nil)).ch⟩
                            )
                          )
                        ·first
                         | (exfalso; omega)
                         | (
                          refine jy (y_pick_true rfl rfl) ?_
                          refine jz ?_
                          refine jsk ?_
                          refine jsk ?_
                          refine jsk ?_
                          refine jsk ?_
                          refine jsk ?_
                          refine jy (y_pick_false rfl rfl) ?_
                          refine jz ?_
                          refine jsk ?_
                          refine jsk ?_
                          refine jsk ?_
                          refine jy (y_pick_false rfl rfl) ?_
                          refine jz ?_
                          refine jsk ?_
                          refine jy (y_pick_false rfl rfl) ?_
                          refine jz ?_
                          refine jnt ?_
                          refine jc_ret ?_
                          refine jq_ret1 rfl rfl ?_
                          exact fun _ hw => ⟨rfl, (hallc.next hw (by repeat first | exact ⟨_, mem0, rfl⟩ | exact ⟨_, mem1, rfl⟩ | exact ⟨_, mem2, rfl⟩ | refine List.forall_mem_cons.2 ⟨?_, ?_⟩ | exact fun _ h => absurd h List.not_mem_nil)).ch⟩
                          )
                        )
                      ·first
                       | (exfalso; omega)
                       | (
                        refine jz ?_
                        refine jsk ?_
                        refine jsk ?_
                        refine jy (y_pick_false rfl rfl) ?_
                        refine jz ?_
                        refine jsk ?_
                        refine jsk ?_
                        refine jsk ?_
                        refine jsk ?_
                        refine jsk ?_
                        refine jy (y_pick_false rfl rfl) ?_
                        refine jz ?_
                        refine jsk ?_
                        refine jsk ?_
                        refine jsk ?_
                        refine jy (y_pick_false rfl rfl) ?_
                        refine jz ?_
                        refine jsk ?_
                        refine jy (y_pick_false rfl rfl) ?_
                        refine jz ?_
                        refine jnt ?_
                        refine jc_ret ?_
                        refine jq_ret1 rfl rfl ?_
                        exact fun _ hw => ⟨rfl, (hallc.next hw (by repeat first | exact ⟨_, mem0, rfl⟩ | exact ⟨_, mem1, rfl⟩ | exact ⟨_, mem2, rfl⟩ | refine List.forall_mem_cons.2 ⟨?_, ?_⟩ | exact fun _ h => absurd h List.not_mem_nil)).ch⟩
                        )
                      )
                    )
                  )
                )
              )
            )
          )
      ·skip
       refine jf_m (by intros; rename_i h; first | exact h | exact h.pop | exact h.pop.pop | exact h.pop.pop.pop | exact h.pop.pop.pop.pop | exact h.pop.pop.pop.pop.pop | exact h.pop.pop.pop.pop.pop.pop | exact h.part .nil) rfl rfl (by decide) rfl (m_alloc) (fun b12 => ?_)
       refine jf_pcall (by intro _ h; first | exact h | exact h.pop | exact h.pop.pop | exact h.pop.pop.pop | exact h.pop.pop.pop.pop | exact h.pop.pop.pop.pop.pop | exact h.pop.pop.pop.pop.pop.pop | exact h.part .nil) rfl rfl (by decide) rfl (goes_func rfl) (fun w1 hw1 => pcall hw1 (anchor_any bc str8Tks 9 w1 (hoc.keep hw1).at)) ?_
       refine jf_take rfl rfl (by decide) rfl (y_build (Built.cell rfl rfl rfl (by repeat constructor) (Built.cell rfl rfl rfl (by repeat constructor) (Built.cell rfl rfl rfl (by repeat constructor) (Built.cell rfl rfl rfl (by repeat constructor) (Built.cell rfl rfl rfl (by repeat constructor) Built.nil)))))) ?_
       refine jf_nil ?_
       refine jst ?_
       refine jnt ?_
       refine jsr ?_
       refine jz ?_
       first | refine jy (y_conv_fits rfl (by simp only [fits]; omega)) ?_ | refine jy (y_conv_u64 rfl) ?_
       refine jy (y_add_u64 rfl rfl) ?_
       refine jl_as (u := .int .u64 a) (congrArg (Value.int .u64) (by omega)) ?_
       refine jz ?_
       refine jnt ?_
       refine jsr ?_
       refine jz ?_
       refine jz ?_
       refine jz ?_
       refine jpc (goes_func rfl) (fun w1 hw1 => vouch_any str8Ch a w1 (by decide) (by simp only [fits]; omega)) ?_
       refine jl_ucallH rfl (by decide) rfl (goes_func rfl) (by rfl) (fun w1 hw1 => ksign_ok [bk.2] bk.1 bk.2 (cutS seed 50) 2 w1 (hkk.keep hw1) (by simp) (by decide) (by omega) (vouch str8Ch a) (by have := vouch_small str8Ch a; omega) (0) (by decide) (hw1.get mem1)) (by first | exact rep0 | exact rep1 | exact rep2 | exact rep3 | exact rep4 | exact rep5) ?_
       refine jz ?_
       refine jz ?_
       refine jz ?_
       refine jz ?_
       refine jz ?_
       refine jnt ?_
       refine jsr ?_
       refine jy (y_indexAddr_arr rfl rfl (by omega) (by omega) (by simp only [Int.toNat_natCast, Int.reduceSub, Int.reduceAdd, Int.reduceToNat, Nat.reduceMul, Nat.reduceAdd, Nat.zero_add, Nat.mul_one, Nat.zero_mul, Nat.add_zero]; exact rfl)) ?_
       refine jy (y_load_old rfl hx0.1 hx0.2) ?_
       refine jy (y_rem rfl rfl (by omega) (by omega)) ?_
       first | refine jy (y_conv_fits rfl (by simp only [fits]; omega)) ?_
       refine jl_as (u := .int .i64 ((k : Nat) : Int)) (congrArg (Value.int .i64) (by omega)) ?_
       refine jz ?_
       refine jnt ?_
       refine jsr ?_
       refine jz ?_
       refine jz ?_
       refine jpc (goes_func rfl) (fun w1 hw1 => token_any bc str8Tks 9 w1 (hoc.keep hw1).at ((k : Nat) : Int)) ?_
       refine jz ?_
       refine jz ?_
       refine jl_as (u := .string (tokS str8Tks 9 k)) (congrArg Value.string (@tok_in str8Tks 9 ((k : Nat) : Int) ⟨by omega, by omega⟩).1) ?_
       refine jz ?_
       refine jl_as (u := .int .i64 0) (congrArg (Value.int .i64) (@tok_in str8Tks 9 ((k : Nat) : Int) ⟨by omega, by omega⟩).2) ?_
       refine jz ?_
       refine jz ?_
       refine jnt ?_
       refine jsr ?_
       refine jz ?_
       refine jz ?_
       refine jz ?_
       refine jy (y_build (Built.cell rfl rfl rfl (by repeat constructor) (Built.cell rfl rfl rfl (by repeat constructor) (Built.cell rfl rfl rfl (by repeat constructor) Built.nil)))) ?_
       refine jl_m rfl (by decide) rfl (m_alloc) (fun b19 => ?_)
       refine jst ?_
       refine jnt ?_
       refine jsr ?_
       refine jz ?_
       refine jnt ?_
       refine jc_seq ?_
       refine jsr ?_
       refine jz ?_
       refine jnt ?_
       refine jc_block ?_
       refine jc_loop3 (fun (i : Nat) (ad : Option Addr) (cu : Nat) => [(5, .pointer (some ⟨b5, 0, none⟩)), (7, .pointer (some ⟨bk.1, 0, none⟩)), (9, .pointer (some ⟨bc, 0, none⟩)), (11, .string str8Ch), (12, .pointer (some ⟨b12, 0, none⟩)), (13, .int .u64 a), (15, .int .i64 0), (16, .int .i64 ((k : Nat) : Int)), (17, .string (tokS str8Tks 9 k)), (18, .int .i64 0), (19, .pointer (some ⟨b19, 0, none⟩)), (20, .int .u64 (sumF (pdL (cutS seed 50) e1 e2 e3 i))), (21, .int .u64 ((i : Nat) : Int))]) (fun (i : Nat) (ad : Option Addr) (cu : Nat) => fun w' => i ≤ 2 ∧ Hp wc [bk.2] [.row ad ((pdL (cutS seed 50) e1 e2 e3 i)).length cu 45 10 (((pdL (cutS seed 50) e1 e2 e3 i)).flatMap Wn.c), .cells b19 [.int .u64 a, .string (signK (cutS seed 50) 2 0 (vouch str8Ch a)), .string (tokS str8Tks 9 k), .slice ad ((pdL (cutS seed 50) e1 e2 e3 i).length) cu], .cells b12 (Tm.c (pdTm (cutS seed 50) u)), .cells bk.2 [.int .i64 ((i + 1 : Nat) : Int), .int .i64 ((2 ^ 2 : Nat) : Int)]] w') (fun (i : Nat) (ad : Option Addr) (cu : Nat) => 2 - i) 0 none 0 ?_ ?_ ?_
       ·exact ⟨rfl, rfl, rfl, rfl, rfl, rfl, rfl, rfl, rfl, rfl, rfl, lk_int rfl sumF_0.symm, lk_int rfl rfl, trivial⟩
       ·exact fun _ h => ⟨by omega, h.nilrow 45 10⟩
       ·intro i ad cu
        refine jc_and (fun hi => ?_)
        refine jc_seq ?_
        refine jsr ?_
        refine jz ?_
        refine jy (y_lss rfl rfl) ?_
        refine jl_prop (fun h101 => ?_) (fun h101 => ?_)
        ·first
         | (exfalso; omega)
         | (
          have hi2 : i < 2 := by omega
          have hWf := pd_fit (seed := (cutS seed 50)) hin i (by omega)
          have hTk : (pdT e1 e2 e3 i).Fit := ⟨hWf.t.serial, hWf.t.face, hWf.t.wins, hWf.t.many, hWf.t.client⟩
          have hxi : CellO wc [bk.2] b5 (2 + i) (.int .u64 (pdC e2 e3 i)) := by
           rcases (show i = 0 ∨ i = 1 by omega) with rfl | rfl
           ·exact hx2
           ·exact hx3
          have hps := pd_sum (seed := (cutS seed 50)) (b := e1) (d := e3) h2.1 i
          have hpl := pd_len (seed := (cutS seed 50)) (b := e1) (c := e2) (d := e3) i
          refine jnt ?_
          refine jc_true rfl ?_
          refine jc_skip ?_
          refine jq_then ?_
          refine jc_seq ?_
          refine jc_block ?_
          refine jsr ?_
          refine jy (y_indexAddr_arr rfl rfl (by omega) (by omega) (by simp only [Int.toNat_natCast, Int.reduceSub, Int.reduceAdd, Int.reduceToNat, Nat.reduceMul, Nat.reduceAdd, Nat.zero_add, Nat.mul_one, Nat.zero_mul, Nat.add_zero]; exact rfl)) ?_
          refine jy (y_load_old rfl hx1.1 hx1.2) ?_
          refine jy (y_rem rfl rfl (by omega) (by omega)) ?_
          refine jy (y_add_u64 rfl rfl) ?_
          refine jl_as (u := .int .u64 (pdM e1)) (congrArg (Value.int .u64) (by unfold pdM; omega)) ?_
          refine jz ?_
          refine jnt ?_
          refine jc_seq ?_
          refine jc_sched 25 [(0, true), (1, true), (2, true), (3, true), (4, true), (5, true), (6, true), (7, true), (8, true), (9, true), (10, true), (11, true), (12, true), (13, true), (14, true), (15, true), (16, true), (17, true), (18, true), (19, true), (20, true), (21, true), (22, true), (23, true), (24, false)] rfl (by kernel_rfl) (fun _ _ _ _ h => h) (fun _ h => h.drew) ?_
          simp only [pickO, nthO, List.drop_succ_cons, List.drop_zero]
          refine jkz ?_
          refine jkz ?_
          refine jky (y_indexAddr_arr rfl rfl (by omega) (by omega) (by simp only [Int.toNat_natCast, Int.reduceSub, Int.reduceAdd, Int.reduceToNat, Nat.reduceMul, Nat.reduceAdd, Nat.zero_add, Nat.mul_one, Nat.zero_mul, Nat.add_zero]; exact rfl)) ?_
          refine jky (y_load_old rfl hx2.1 hx2.2) ?_
          refine jky (y_rem rfl rfl (by omega) (by omega)) ?_
          refine jky (y_indexAddr_arr rfl rfl (by omega) (by omega) (by simp only [Int.toNat_natCast, Int.reduceSub, Int.reduceAdd, Int.reduceToNat, Nat.reduceMul, Nat.reduceAdd, Nat.zero_add, Nat.mul_one, Nat.zero_mul, Nat.add_zero]; exact rfl)) ?_
          refine jky (y_load_old rfl hx3.1 hx3.2) ?_
          refine jkz ?_
          refine jky (y_add_u64 rfl rfl) ?_
          refine js_as (u := .int .u64 (pdM e1 + 1)) (congrArg (Value.int .u64) (by omega)) ?_
          refine jky (y_rem rfl rfl (by omega) (by omega)) ?_
          refine js_as (u := .int .u64 (pdN e1 e3)) (congrArg (Value.int .u64) (rfl)) ?_
          refine jkz ?_
          refine jkz ?_
          refine jky (y_add_u64 rfl rfl) ?_
          refine js_as (u := .int .u64 (2 + ((i : Nat) : Int))) (congrArg (Value.int .u64) (by omega)) ?_
          refine jky (y_indexAddr_arr (off := 2 + i) rfl rfl (by omega) (by omega) (by omega)) ?_
          refine jky (y_load_old rfl hxi.1 hxi.2) ?_
          refine jky (y_build (Built.cell rfl rfl rfl (by repeat constructor) (Built.cell rfl rfl rfl (by repeat constructor) (Built.cell rfl rfl rfl (by repeat constructor) (Built.cell rfl rfl rfl (by repeat constructor) (Built.cell rfl rfl rfl (by repeat constructor) (Built.cell rfl rfl rfl (by repeat constructor) Built.nil))))))) ?_
          refine jky (y_indexAddr_arr rfl rfl (by omega) (by omega) (by simp only [Int.toNat_natCast, Int.reduceSub, Int.reduceAdd, Int.reduceToNat, Nat.reduceMul, Nat.reduceAdd, Nat.zero_add, Nat.mul_one, Nat.zero_mul, Nat.add_zero]; exact rfl)) ?_
          refine jky (y_load_old rfl hx1.1 hx1.2) ?_
          refine jkz ?_
          refine jky (y_mul_u64 rfl rfl) ?_
          refine js_as (u := .int .u64 (7 * ((i : Nat) : Int))) (congrArg (Value.int .u64) (by omega)) ?_
          refine jky (y_add_u64 rfl rfl) ?_
          refine jkz ?_
          refine jky (y_rem rfl rfl (by omega) (by omega)) ?_
          refine js_as (u := .int .u64 (pdD e1 i)) (congrArg (Value.int .u64) (rfl)) ?_
          refine jky (y_build (Built.agg rfl rfl rfl (by repeat constructor) (Built.cell rfl rfl rfl (by repeat constructor) (Built.cell rfl rfl rfl (by repeat constructor) Built.nil)))) ?_
          refine js_m (by intros; rename_i h; first | exact h | exact h.pop | exact h.pop.pop | exact h.pop.pop.pop | exact h.pop.pop.pop.pop | exact h.pop.pop.pop.pop.pop | exact h.pop.pop.pop.pop.pop.pop | exact h.part .nil) rfl (by decide) rfl (m_alloc) (fun b23 => ?_)
          refine js_nil ?_
          refine jst ?_
          refine jnt ?_
          refine jsr ?_
          refine jz ?_
          refine jz ?_
          refine jz ?_
          refine jz ?_
          refine jpc (goes_func rfl) (fun w1 hw1 => commit_any str8Sl (pdD e1 i) w1 (by decide) hWf.drawn) ?_
          refine jz ?_
          refine jz ?_
          refine jst ?_
          refine jnt ?_
          refine jsr ?_
          refine jz ?_
          refine jz ?_
          refine jz ?_
          refine jpc (goes_func rfl) (fun w1 hw1 => text_any (pdT e1 e2 e3 i) w1 hTk (show str8Ch.size ≤ 1000000000 by decide) (by have := commitS_size str8Sl (pdD e1 i); show (commitS str8Sl (pdD e1 i)).size ≤ _; omega)) ?_
          refine jl_ucallH rfl (by decide) rfl (goes_func rfl) (by rfl) (fun w1 hw1 => ksign_ok [bk.2] bk.1 bk.2 (cutS seed 50) 2 w1 (hkk.keep hw1) (by simp) (by decide) (by omega) (tkText (pdT e1 e2 e3 i)) (by have := tkText_small (pdT e1 e2 e3 i); omega) (i + 1) (by show i + 1 < 4; omega) (hw1.get mem4)) (by first | exact rep0 | exact rep1 | exact rep2 | exact rep3 | exact rep4 | exact rep5) ?_
          refine jz ?_
          refine jz ?_
          refine jl_as (u := .string (pdS (cutS seed 50) e1 e2 e3 i)) rfl ?_
          refine jz ?_
          refine jz ?_
          refine jz ?_
          refine jnt ?_
          refine jsr ?_
          refine jz ?_
          refine jz ?_
          refine jz ?_
          refine jst ?_
          refine jnt ?_
          refine jc_seq ?_
          refine jc_world (fun _ h => h.cast (H' := [.cells b23 (Wn.c (pdW (cutS seed 50) e1 e2 e3 i)), .row ad ((pdL (cutS seed 50) e1 e2 e3 i)).length cu 45 10 (((pdL (cutS seed 50) e1 e2 e3 i)).flatMap Wn.c), .cells b19 [.int .u64 a, .string (signK (cutS seed 50) 2 0 (vouch str8Ch a)), .string (tokS str8Tks 9 k), .slice ad ((pdL (cutS seed 50) e1 e2 e3 i).length) cu], .cells b12 (Tm.c (pdTm (cutS seed 50) u)), .cells bk.2 [.int .i64 ((i + 1 + 1 : Nat) : Int), .int .i64 ((2 ^ 2 : Nat) : Int)]]) rfl) ?_
          cases hI : pdI e1 e2 e3 i
          ·skip
           refine jc_draw (by kernel_rfl) (fun _ h => h.drew) ?_
           refine juz ?_
           refine ju_call rfl (by decide) rfl (goes_func rfl) (fun w1 hw1 => pcall hw1 (kroot_any _ bk.1 bk.2 (cutS seed 50) 2 w1 (hkk.keep hw1))) ?_
           refine juz ?_
           refine ju_call rfl (by decide) rfl (goes_func rfl) (fun w1 hw1 => pcall hw1 (cq (won_any (rootK (cutS seed 50) 2) (pdW (cutS seed 50) e1 e2 e3 i) w1 hWf (show str8Sl.size ≤ 1000000 by decide)) (u := .tuple #[.int .u64 0, .int .i64 13]) (by rw [pd_wonV hin i (by omega), pd_won hin i (by omega), hI] <;> rfl))) ?_
           refine juz ?_
           refine juz ?_
           refine juz ?_
           refine juz ?_
           refine juz ?_
           refine ju_nil ?_
           refine jq_then ?_
           refine jsr ?_
           refine jz ?_
           refine jz ?_
           refine jz ?_
           refine jz ?_
           refine jz ?_
           refine jz ?_
           refine jz ?_
           refine jz ?_
           refine jz ?_
           refine jpc (goes_func rfl) (fun w1 hw1 => cq (wins_any (pdD e1 i) (pdC e2 e3 i) (pdN e1 e3) (pdM e1) w1 hWf.drawn hWf.t.client hWf.t.wins hWf.t.many) (u := .tuple #[.bool false, .int .i64 0]) (by rw [show winsB (pdD e1 i) (pdC e2 e3 i) (pdN e1 e3) (pdM e1) = false from hI, pd_E hin i])) ?_
           refine jz ?_
           refine jz ?_
           refine jl_as (u := .bool false) rfl ?_
           refine jz ?_
           refine jz ?_
           refine jz ?_
           refine jnt ?_
           refine jc_seq ?_
           refine jsr ?_
           refine jz ?_
           refine jy (y_neq rfl rfl) ?_
           refine jl_prop (fun h171 => ?_) (fun h171 => ?_)
           ·first
            | (exfalso; omega)
            | (
             refine jz ?_
             refine jsk ?_
             refine jsk ?_
             refine jy (y_pick_true rfl rfl) ?_
             refine jz ?_
             refine jsk ?_
             refine jsk ?_
             refine jsk ?_
             refine jsk ?_
             refine jy (y_pick_true rfl rfl) ?_
             refine jz ?_
             refine jsk ?_
             refine jsk ?_
             refine jsk ?_
             refine jsk ?_
             refine jsk ?_
             refine jsk ?_
             refine jsk ?_
             refine jsk ?_
             refine jy (y_pick_true rfl rfl) ?_
             refine jz ?_
             refine jsk ?_
             refine jsk ?_
             refine jsk ?_
             refine jsk ?_
             refine jsk ?_
             refine jsk ?_
             refine jy (y_pick_true rfl rfl) ?_
             refine jnt ?_
             refine jc_true rfl ?_
             refine jsr ?_
             refine jz ?_
             refine jnt ?_
             refine jc_ret ?_
             refine jq_then_ret ?_
             refine jq_block_ret ?_
             refine jq_then_ret ?_
             refine jq_then_ret ?_
             refine jq_block_ret ?_
             refine jq_then_ret ?_
             refine jq_ret1 rfl rfl ?_
             exact fun _ hw => ⟨rfl, (hallc.next hw (by repeat first | exact ⟨_, mem0, rfl⟩ | exact ⟨_, mem1, rfl⟩ | exact ⟨_, mem2, rfl⟩ | refine List.forall_mem_cons.2 ⟨?_, ?_⟩ | exact fun _ h => absurd h List.not_mem_nil)).ch⟩
             )
           ·first
            | (exfalso; omega)
            | (
             refine jz ?_
             refine jz ?_
             refine jy (y_neq rfl rfl) ?_
             refine jl_prop (fun h174 => ?_) (fun h174 => ?_)
             ·first
              | (exfalso; omega)
              | (
               refine jy (y_pick_false rfl rfl) ?_
               refine jz ?_
               refine jsk ?_
               refine jsk ?_
               refine jsk ?_
               refine jsk ?_
               refine jy (y_pick_true rfl rfl) ?_
               refine jz ?_
               refine jsk ?_
               refine jsk ?_
               refine jsk ?_
               refine jsk ?_
               refine jsk ?_
               refine jsk ?_
               refine jsk ?_
               refine jsk ?_
               refine jy (y_pick_true rfl rfl) ?_
               refine jz ?_
               refine jsk ?_
               refine jsk ?_
               refine jsk ?_
               refine jsk ?_
               refine jsk ?_
               refine jsk ?_
               refine jy (y_pick_true rfl rfl) ?_
               refine jnt ?_
               refine jc_true rfl ?_
               refine jsr ?_
               refine jz ?_
               refine jnt ?_
               refine jc_ret ?_
               refine jq_then_ret ?_
               refine jq_block_ret ?_
               refine jq_then_ret ?_
               refine jq_then_ret ?_
               refine jq_block_ret ?_
               refine jq_then_ret ?_
               refine jq_ret1 rfl rfl ?_
               exact fun _ hw => ⟨rfl, (hallc.next hw (by repeat first | exact ⟨_, mem0, rfl⟩ | exact ⟨_, mem1, rfl⟩ | exact ⟨_, mem2, rfl⟩ | refine List.forall_mem_cons.2 ⟨?_, ?_⟩ | exact fun _ h => absurd h List.not_mem_nil)).ch⟩
               )
             ·first
              | (exfalso; omega)
              | (
               refine jy (y_pick_false rfl rfl) ?_
               refine jz ?_
               refine jz ?_
               refine jy (y_eql rfl rfl) ?_
               refine jl_prop (fun h178 => ?_) (fun h178 => ?_)
               ·first
                | (exfalso; omega)
                | (
                 refine jz ?_
                 refine jy (y_neq_bool rfl rfl) ?_
                 refine jl_as (u := .bool true) rfl ?_
                 refine jy (y_pick_false rfl rfl) ?_
                 refine jz ?_
                 refine jsk ?_
                 refine jsk ?_
                 refine jsk ?_
                 refine jsk ?_
                 refine jsk ?_
                 refine jsk ?_
                 refine jsk ?_
                 refine jsk ?_
                 refine jy (y_pick_true rfl rfl) ?_
                 refine jz ?_
                 refine jsk ?_
                 refine jsk ?_
                 refine jsk ?_
                 refine jsk ?_
                 refine jsk ?_
                 refine jsk ?_
                 refine jy (y_pick_true rfl rfl) ?_
                 refine jnt ?_
                 refine jc_true rfl ?_
                 refine jsr ?_
                 refine jz ?_
                 refine jnt ?_
                 refine jc_ret ?_
                 refine jq_then_ret ?_
                 refine jq_block_ret ?_
                 refine jq_then_ret ?_
                 refine jq_then_ret ?_
                 refine jq_block_ret ?_
                 refine jq_then_ret ?_
                 refine jq_ret1 rfl rfl ?_
                 exact fun _ hw => ⟨rfl, (hallc.next hw (by repeat first | exact ⟨_, mem0, rfl⟩ | exact ⟨_, mem1, rfl⟩ | exact ⟨_, mem2, rfl⟩ | refine List.forall_mem_cons.2 ⟨?_, ?_⟩ | exact fun _ h => absurd h List.not_mem_nil)).ch⟩
                 )
               ·first
                | (exfalso; omega)
                | (
                 refine jz ?_
                 refine jy (y_neq_bool rfl rfl) ?_
                 refine jl_as (u := .bool false) rfl ?_
                 refine jy (y_pick_false rfl rfl) ?_
                 refine jz ?_
                 refine jz ?_
                 refine jz ?_
                 refine jsk ?_
                 refine jsk ?_
                 refine jsk ?_
                 refine jsk ?_
                 refine jsk ?_
                 refine jy (y_pick_false rfl rfl) ?_
                 refine jy (y_pick_false rfl rfl) ?_
                 refine jz ?_
                 refine jz ?_
                 refine jz ?_
                 refine jz ?_
                 refine jz ?_
                 refine jy (y_neq rfl rfl) ?_
                 refine jl_prop (fun h197 => ?_) (fun h197 => ?_)
                 ·first
                  | (exfalso; omega)
                  | (
                   refine jy (y_pick_true rfl rfl) ?_
                   refine jy (y_pick_false rfl rfl) ?_
                   refine jnt ?_
                   refine jc_true rfl ?_
                   refine jsr ?_
                   refine jz ?_
                   refine jnt ?_
                   refine jc_ret ?_
                   refine jq_then_ret ?_
                   refine jq_block_ret ?_
                   refine jq_then_ret ?_
                   refine jq_then_ret ?_
                   refine jq_block_ret ?_
                   refine jq_then_ret ?_
                   refine jq_ret1 rfl rfl ?_
                   exact fun _ hw => ⟨rfl, (hallc.next hw (by repeat first | exact ⟨_, mem0, rfl⟩ | exact ⟨_, mem1, rfl⟩ | exact ⟨_, mem2, rfl⟩ | refine List.forall_mem_cons.2 ⟨?_, ?_⟩ | exact fun _ h => absurd h List.not_mem_nil)).ch⟩
                   )
                 ·first
                  | (exfalso; omega)
                  | (
                   refine jy (y_pick_true rfl rfl) ?_
                   refine jy (y_pick_false rfl rfl) ?_
                   refine jnt ?_
                   refine jc_false rfl ?_
                   refine jc_skip ?_
                   refine jq_then ?_
                   refine jsr ?_
                   refine jz ?_
                   refine jnt ?_
                   refine jc_false rfl ?_
                   refine jc_skip ?_
                   refine jq_block ?_
                   refine jq_then ?_
                   refine jc_region ?_
                   refine jz ?_
                   refine jy (y_add_u64 rfl rfl) ?_
                   refine jz ?_
                   refine jl_nil ?_
                   refine jq_round3 (i := i) (j := ad) (l := cu) (i + 1) ad cu ?_ ?_ ?_
                   ·omega
                   ·exact ⟨rfl, rfl, rfl, rfl, rfl, rfl, rfl, rfl, rfl, rfl, rfl, lk_int rfl (by rw [pd_no hI]), lk_int rfl (by omega), trivial⟩
                   ·exact fun _ h => ⟨by omega, h.pop.cast (by rw [pd_no hI])⟩
                   )
                 )
               )
             )
          ·skip
           refine jc_draw (by kernel_rfl) (fun _ h => h.drew) ?_
           refine juz ?_
           refine ju_call rfl (by decide) rfl (goes_func rfl) (fun w1 hw1 => pcall hw1 (kroot_any _ bk.1 bk.2 (cutS seed 50) 2 w1 (hkk.keep hw1))) ?_
           refine juz ?_
           refine ju_call rfl (by decide) rfl (goes_func rfl) (fun w1 hw1 => pcall hw1 (cq (won_any (rootK (cutS seed 50) 2) (pdW (cutS seed 50) e1 e2 e3 i) w1 hWf (show str8Sl.size ≤ 1000000 by decide)) (u := .tuple #[.int .u64 (e2 % 1000), .int .i64 0]) (by rw [pd_wonV hin i (by omega), pd_won hin i (by omega), hI] <;> rfl))) ?_
           refine juz ?_
           refine juz ?_
           refine juz ?_
           refine juz ?_
           refine juz ?_
           refine ju_nil ?_
           refine jq_then ?_
           refine jsr ?_
           refine jz ?_
           refine jz ?_
           refine jz ?_
           refine jz ?_
           refine jz ?_
           refine jz ?_
           refine jz ?_
           refine jz ?_
           refine jz ?_
           refine jpc (goes_func rfl) (fun w1 hw1 => cq (wins_any (pdD e1 i) (pdC e2 e3 i) (pdN e1 e3) (pdM e1) w1 hWf.drawn hWf.t.client hWf.t.wins hWf.t.many) (u := .tuple #[.bool true, .int .i64 0]) (by rw [show winsB (pdD e1 i) (pdC e2 e3 i) (pdN e1 e3) (pdM e1) = true from hI, pd_E hin i])) ?_
           refine jz ?_
           refine jz ?_
           refine jl_as (u := .bool true) rfl ?_
           refine jz ?_
           refine jz ?_
           refine jz ?_
           refine jnt ?_
           refine jc_seq ?_
           refine jsr ?_
           refine jz ?_
           refine jy (y_neq rfl rfl) ?_
           refine jl_prop (fun h171 => ?_) (fun h171 => ?_)
           ·first
            | (exfalso; omega)
            | (
             refine jz ?_
             refine jsk ?_
             refine jsk ?_
             refine jy (y_pick_true rfl rfl) ?_
             refine jz ?_
             refine jsk ?_
             refine jsk ?_
             refine jsk ?_
             refine jsk ?_
             refine jy (y_pick_true rfl rfl) ?_
             refine jz ?_
             refine jsk ?_
             refine jsk ?_
             refine jsk ?_
             refine jsk ?_
             refine jsk ?_
             refine jsk ?_
             refine jsk ?_
             refine jsk ?_
             refine jy (y_pick_true rfl rfl) ?_
             refine jz ?_
             refine jsk ?_
             refine jsk ?_
             refine jsk ?_
             refine jsk ?_
             refine jsk ?_
             refine jsk ?_
             refine jy (y_pick_true rfl rfl) ?_
             refine jnt ?_
             refine jc_true rfl ?_
             refine jsr ?_
             refine jz ?_
             refine jnt ?_
             refine jc_ret ?_
             refine jq_then_ret ?_
             refine jq_block_ret ?_
             refine jq_then_ret ?_
             refine jq_then_ret ?_
             refine jq_block_ret ?_
             refine jq_then_ret ?_
             refine jq_ret1 rfl rfl ?_
             exact fun _ hw => ⟨rfl, (hallc.next hw (by repeat first | exact ⟨_, mem0, rfl⟩ | exact ⟨_, mem1, rfl⟩ | exact ⟨_, mem2, rfl⟩ | refine List.forall_mem_cons.2 ⟨?_, ?_⟩ | exact fun _ h => absurd h List.not_mem_nil)).ch⟩
             )
           ·first
            | (exfalso; omega)
            | (
             refine jz ?_
             refine jz ?_
             refine jy (y_neq rfl rfl) ?_
             refine jl_prop (fun h174 => ?_) (fun h174 => ?_)
             ·first
              | (exfalso; omega)
              | (
               refine jy (y_pick_false rfl rfl) ?_
               refine jz ?_
               refine jsk ?_
               refine jsk ?_
               refine jsk ?_
               refine jsk ?_
               refine jy (y_pick_true rfl rfl) ?_
               refine jz ?_
               refine jsk ?_
               refine jsk ?_
               refine jsk ?_
               refine jsk ?_
               refine jsk ?_
               refine jsk ?_
               refine jsk ?_
               refine jsk ?_
               refine jy (y_pick_true rfl rfl) ?_
               refine jz ?_
               refine jsk ?_
               refine jsk ?_
               refine jsk ?_
               refine jsk ?_
               refine jsk ?_
               refine jsk ?_
               refine jy (y_pick_true rfl rfl) ?_
               refine jnt ?_
               refine jc_true rfl ?_
               refine jsr ?_
               refine jz ?_
               refine jnt ?_
               refine jc_ret ?_
               refine jq_then_ret ?_
               refine jq_block_ret ?_
               refine jq_then_ret ?_
               refine jq_then_ret ?_
               refine jq_block_ret ?_
               refine jq_then_ret ?_
               refine jq_ret1 rfl rfl ?_
               exact fun _ hw => ⟨rfl, (hallc.next hw (by repeat first | exact ⟨_, mem0, rfl⟩ | exact ⟨_, mem1, rfl⟩ | exact ⟨_, mem2, rfl⟩ | refine List.forall_mem_cons.2 ⟨?_, ?_⟩ | exact fun _ h => absurd h List.not_mem_nil)).ch⟩
               )
             ·first
              | (exfalso; omega)
              | (
               refine jy (y_pick_false rfl rfl) ?_
               refine jz ?_
               refine jz ?_
               refine jy (y_eql rfl rfl) ?_
               refine jl_prop (fun h178 => ?_) (fun h178 => ?_)
               ·first
                | (exfalso; omega)
                | (
                 refine jz ?_
                 refine jy (y_neq_bool rfl rfl) ?_
                 refine jl_as (u := .bool false) rfl ?_
                 refine jy (y_pick_false rfl rfl) ?_
                 refine jz ?_
                 refine jz ?_
                 refine jz ?_
                 refine jz ?_
                 refine jz ?_
                 refine jz ?_
                 refine jz ?_
                 refine jl_as (u := .int .u64 (e2 % 1000)) (congrArg (Value.int .u64) (rfl)) ?_
                 refine jy (y_neq rfl rfl) ?_
                 refine jl_prop (fun h189 => ?_) (fun h189 => ?_)
                 ·first
                  | (exfalso; omega)
                  | (
                   refine jy (y_pick_true rfl rfl) ?_
                   refine jy (y_pick_false rfl rfl) ?_
                   refine jz ?_
                   refine jsk ?_
                   refine jsk ?_
                   refine jsk ?_
                   refine jsk ?_
                   refine jsk ?_
                   refine jsk ?_
                   refine jy (y_pick_true rfl rfl) ?_
                   refine jnt ?_
                   refine jc_true rfl ?_
                   refine jsr ?_
                   refine jz ?_
                   refine jnt ?_
                   refine jc_ret ?_
                   refine jq_then_ret ?_
                   refine jq_block_ret ?_
                   refine jq_then_ret ?_
                   refine jq_then_ret ?_
                   refine jq_block_ret ?_
                   refine jq_then_ret ?_
                   refine jq_ret1 rfl rfl ?_
                   exact fun _ hw => ⟨rfl, (hallc.next hw (by repeat first | exact ⟨_, mem0, rfl⟩ | exact ⟨_, mem1, rfl⟩ | exact ⟨_, mem2, rfl⟩ | refine List.forall_mem_cons.2 ⟨?_, ?_⟩ | exact fun _ h => absurd h List.not_mem_nil)).ch⟩
                   )
                 ·first
                  | (exfalso; omega)
                  | (
                   refine jy (y_pick_true rfl rfl) ?_
                   refine jy (y_pick_false rfl rfl) ?_
                   refine jz ?_
                   refine jz ?_
                   refine jz ?_
                   refine jz ?_
                   refine jsk ?_
                   refine jsk ?_
                   refine jy (y_pick_false rfl rfl) ?_
                   refine jy (y_pick_false rfl rfl) ?_
                   refine jnt ?_
                   refine jc_false rfl ?_
                   refine jc_skip ?_
                   refine jq_then ?_
                   refine jsr ?_
                   refine jz ?_
                   refine jnt ?_
                   refine jc_true rfl ?_
                   refine jsr ?_
                   refine jz ?_
                   refine jz ?_
                   refine jy (y_add_u64 rfl rfl) ?_
                   refine jl_as (u := .int .u64 (sumF (pdL (cutS seed 50) e1 e2 e3 i) + e2 % 1000)) (congrArg (Value.int .u64) (by omega)) ?_
                   refine jz ?_
                   refine jnt ?_
                   refine jc_region ?_
                   refine jz ?_
                   refine jz ?_
                   refine jz ?_
                   refine jl_m rfl (by decide) rfl (m_buildSlice (size := 10) (by decide) (Built.agg rfl rfl rfl (by repeat constructor) Built.nil)) (fun b207 => ?_)
                   refine jl_m2 rfl (by decide) rfl (m_append rfl rfl (by first | exact del0 | exact del1 | exact del2 | exact del3 | exact del4) (by first | exact del0 | exact del1 | exact del2 | exact del3 | exact del4) rfl (by omega) (by omega)) (fun a208 c208 => ?_)
                   refine jz ?_
                   refine jst ?_
                   refine jl_nil ?_
                   refine jq_block ?_
                   refine jq_then ?_
                   refine jc_region ?_
                   refine jz ?_
                   refine jy (y_add_u64 rfl rfl) ?_
                   refine jz ?_
                   refine jl_nil ?_
                   refine jq_round3 (i := i) (j := ad) (l := cu) (i + 1) a208 c208 ?_ ?_ ?_
                   ·omega
                   ·exact ⟨rfl, rfl, rfl, rfl, rfl, rfl, rfl, rfl, rfl, rfl, rfl, lk_int rfl (by rw [pd_yes hI, sumF_snoc]; rfl), lk_int rfl (by omega), trivial⟩
                   ·exact fun _ h => ⟨by omega, (h.part (F := [.row a208 ((pdL (cutS seed 50) e1 e2 e3 i).length + 1) c208 45 10 ((pdL (cutS seed 50) e1 e2 e3 i).flatMap Wn.c ++ Wn.c (pdW (cutS seed 50) e1 e2 e3 i)), .cells b19 [.int .u64 a, .string (signK (cutS seed 50) 2 0 (vouch str8Ch a)), .string (tokS str8Tks 9 k), .slice a208 ((pdL (cutS seed 50) e1 e2 e3 i).length + 1) c208], .cells b12 (Tm.c (pdTm (cutS seed 50) u)), .cells bk.2 [.int .i64 ((i + 1 + 1 : Nat) : Int), .int .i64 ((2 ^ 2 : Nat) : Int)]]) (.cons (by first | exact del0 | exact del1 | exact del2 | exact del3 | exact del4) (.cons (by first | exact del0 | exact del1 | exact del2 | exact del3 | exact del4) (.cons (by first | exact del0 | exact del1 | exact del2 | exact del3 | exact del4) (.cons (by first | exact del0 | exact del1 | exact del2 | exact del3 | exact del4) .nil))))).cast (by rw [pd_yes hI]; simp)⟩
                   )
                 )
               ·first
                | (exfalso; omega)
                | (
                 refine jz ?_
                 refine jy (y_neq_bool rfl rfl) ?_
                 refine jl_as (u := .bool true) rfl ?_
                 refine jy (y_pick_false rfl rfl) ?_
                 refine jz ?_
                 refine jsk ?_
                 refine jsk ?_
                 refine jsk ?_
                 refine jsk ?_
                 refine jsk ?_
                 refine jsk ?_
                 refine jsk ?_
                 refine jsk ?_
                 refine jy (y_pick_true rfl rfl) ?_
                 refine jz ?_
                 refine jsk ?_
                 refine jsk ?_
                 refine jsk ?_
                 refine jsk ?_
                 refine jsk ?_
                 refine jsk ?_
                 refine jy (y_pick_true rfl rfl) ?_
                 refine jnt ?_
                 refine jc_true rfl ?_
                 refine jsr ?_
                 refine jz ?_
                 refine jnt ?_
                 refine jc_ret ?_
                 refine jq_then_ret ?_
                 refine jq_block_ret ?_
                 refine jq_then_ret ?_
                 refine jq_then_ret ?_
                 refine jq_block_ret ?_
                 refine jq_then_ret ?_
                 refine jq_ret1 rfl rfl ?_
                 exact fun _ hw => ⟨rfl, (hallc.next hw (by repeat first | exact ⟨_, mem0, rfl⟩ | exact ⟨_, mem1, rfl⟩ | exact ⟨_, mem2, rfl⟩ | refine List.forall_mem_cons.2 ⟨?_, ?_⟩ | exact fun _ h => absurd h List.not_mem_nil)).ch⟩
                 )
               )
             )
          )
        ·first
         | (exfalso; omega)
         | (
          refine jnt ?_
          refine jc_false rfl ?_
          refine jc_exit ?_
          refine jq_then_exit ?_
          refine jq_then_exit ?_
          refine jq_hit ?_
          refine jq_then ?_
          refine jc_seq ?_
          have hie : i = 2 := by omega
          subst hie
          have hps := pd_sum (seed := (cutS seed 50)) (b := e1) (d := e3) h2.1 2
          obtain ⟨l, hl⟩ : ∃ l, pdL (cutS seed 50) e1 e2 e3 2 = l := ⟨_, rfl⟩
          have hlf : ∀ x ∈ l, x.Fit := by rw [← hl]; exact pdL_fit hin
          have hll : l.length ≤ 2 := by rw [← hl]; exact pd_len 2
          have hfa : fits .u64 a := by simp only [fits]; omega
          rw [hl] at hps
          obtain ⟨f, hf⟩ : ∃ f, sumF l = f := ⟨_, rfl⟩
          rw [hf] at hps
          have hW0 : WorthIs (pdTm (cutS seed 50) u) (pdP (cutS seed 50) a (tokS str8Tks 9 k) l) (a + n * u + f) := .of (pd_worth (t := (pdTm (cutS seed 50) u)) (p := (pdP (cutS seed 50) a (tokS str8Tks 9 k) l)) (a := a) (u := u) (l := l) (n := 2) (b := e1) (c := e2) (d := e3) (seed := (cutS seed 50)) rfl hin (by omega) hl.symm (by decide) rfl (.inr (tokS_size _ _ _)) (pd_tok (pdP (cutS seed 50) a (tokS str8Tks 9 k) l) (by omega) (by omega) rfl).1 ⟨(pd_tok (pdP (cutS seed 50) a (tokS str8Tks 9 k) l) (by omega) (by omega) rfl).2.2.1, (pd_tok (pdP (cutS seed 50) a (tokS str8Tks 9 k) l) (by omega) (by omega) rfl).2.2.2⟩) (by rw [(pd_tok (pdP (cutS seed 50) a (tokS str8Tks 9 k) l) (by omega) (by omega) rfl).2.1, hn, hf])
          have hW1 : WorthIs (pdTm (cutS seed 50) u) (pdP (cutS seed 50) a ⟨#[]⟩ l) (a + f) := .of (pd_worth (t := (pdTm (cutS seed 50) u)) (p := (pdP (cutS seed 50) a ⟨#[]⟩ l)) (a := a) (u := u) (l := l) (n := 2) (b := e1) (c := e2) (d := e3) (seed := (cutS seed 50)) rfl hin (by omega) hl.symm (by decide) rfl (.inl rfl) (pd_bare (pdP (cutS seed 50) a ⟨#[]⟩ l) rfl).1 (by rw [(pd_bare (pdP (cutS seed 50) a ⟨#[]⟩ l) rfl).2]; decide)) (by rw [(pd_bare (pdP (cutS seed 50) a ⟨#[]⟩ l) rfl).2, hf]; omega)
          have hW2 : WorthIs (pdTm (cutS seed 50) u) (pdP (cutS seed 50) a ⟨#[]⟩ []) a := .of (pd_worth (t := (pdTm (cutS seed 50) u)) (p := (pdP (cutS seed 50) a ⟨#[]⟩ [])) (a := a) (u := u) (l := []) (n := 0) (b := e1) (c := e2) (d := e3) (seed := (cutS seed 50)) rfl hin (by omega) rfl (by decide) rfl (.inl rfl) (pd_bare (pdP (cutS seed 50) a ⟨#[]⟩ []) rfl).1 (by rw [(pd_bare (pdP (cutS seed 50) a ⟨#[]⟩ []) rfl).2]; decide)) (by rw [(pd_bare (pdP (cutS seed 50) a ⟨#[]⟩ []) rfl).2, sumF_nil]; omega)
          refine jc_weaken (F := [(5, .pointer (some ⟨b5, 0, none⟩)), (7, .pointer (some ⟨bk.1, 0, none⟩)), (9, .pointer (some ⟨bc, 0, none⟩)), (11, .string str8Ch), (12, .pointer (some ⟨b12, 0, none⟩)), (13, .int .u64 a), (15, .int .i64 0), (16, .int .i64 ((k : Nat) : Int)), (17, .string (tokS str8Tks 9 k)), (18, .int .i64 0), (19, .pointer (some ⟨b19, 0, none⟩)), (20, .int .u64 f)]) ⟨rfl, rfl, rfl, rfl, rfl, rfl, rfl, rfl, rfl, rfl, rfl, lk_int rfl (by rw [hl, hf]), trivial⟩ ?_
          refine jc_world (fun _ h => h.cast (H' := [.row ad (l).length cu 45 10 ((l).flatMap Wn.c), .cells b19 [.int .u64 a, .string (signK (cutS seed 50) 2 0 (vouch str8Ch a)), .string (tokS str8Tks 9 k), .slice ad (l.length) cu], .cells b12 (Tm.c (pdTm (cutS seed 50) u)), .cells bk.2 [.int .i64 ((2 + 1 : Nat) : Int), .int .i64 ((2 ^ 2 : Nat) : Int)]]) (by rw [hl])) ?_
          refine jc_region ?_
          refine jz ?_
          refine jpc (goes_func rfl) (fun w1 hw1 => anchor_any bc str8Tks 9 w1 (hoc.keep hw1).at) ?_
          refine jz ?_
          refine jpc (goes_func rfl) (fun w1 hw1 => cq (count_any (tokS str8Tks 9 0) (tokS str8Tks 9 k) 9 w1 (by simp only [fits]; decide)) (u := .tuple #[.int .i64 n, .int .i64 0]) (by rw [hn, hct.1])) ?_
          refine jz ?_
          refine jz ?_
          refine jz ?_
          refine jz ?_
          refine jz ?_
          refine jnt ?_
          refine jsr ?_
          refine jz ?_
          refine jz ?_
          refine jpc (goes_func rfl) (fun w1 hw1 => cq (worth_any (pdTm (cutS seed 50) u) (pdP (cutS seed 50) a (tokS str8Tks 9 k) l) ad cu w1 (ElAt.of_row (l := l) (c := Wn.c) (fun _ => rfl) rfl (hw1.get mem0)) hTf ⟨hfa, hlf⟩ (by show (l : List Wn).length ≤ 1000; first | decide | omega) (by show str8Ch.size ≤ _; decide)) (u := .tuple #[.int .u64 (a + n * u + f), .int .i64 0]) (by rw [hW0.e, hW0.v])) ?_
          refine jz ?_
          refine jz ?_
          refine jz ?_
          refine jz ?_
          refine jz ?_
          refine jnt ?_
          refine jc_seq ?_
          refine jsr ?_
          refine jz ?_
          refine jy (y_neq rfl rfl) ?_
          refine jl_prop (fun h224 => ?_) (fun h224 => ?_)
          ·first
           | (exfalso; omega)
           | (
            refine jz ?_
            refine jsk ?_
            refine jsk ?_
            refine jy (y_pick_true rfl rfl) ?_
            refine jz ?_
            refine jsk ?_
            refine jsk ?_
            refine jy (y_pick_true rfl rfl) ?_
            refine jz ?_
            refine jsk ?_
            refine jsk ?_
            refine jy (y_pick_true rfl rfl) ?_
            refine jz ?_
            refine jsk ?_
            refine jsk ?_
            refine jsk ?_
            refine jy (y_pick_true rfl rfl) ?_
            refine jz ?_
            refine jsk ?_
            refine jsk ?_
            refine jsk ?_
            refine jsk ?_
            refine jsk ?_
            refine jsk ?_
            refine jsk ?_
            refine jsk ?_
            refine jsk ?_
            refine jsk ?_
            refine jsk ?_
            refine jy (y_pick_true rfl rfl) ?_
            refine jnt ?_
            refine jc_true rfl ?_
            refine jsr ?_
            refine jz ?_
            refine jnt ?_
            refine jc_ret ?_
            refine jq_then_ret ?_
            refine jq_ret1 rfl rfl ?_
            exact fun _ hw => ⟨rfl, (hallc.next hw (by repeat first | exact ⟨_, mem0, rfl⟩ | exact ⟨_, mem1, rfl⟩ | exact ⟨_, mem2, rfl⟩ | refine List.forall_mem_cons.2 ⟨?_, ?_⟩ | exact fun _ h => absurd h List.not_mem_nil)).ch⟩
            )
          ·first
           | (exfalso; omega)
           | (
            refine jz ?_
            refine jz ?_
            refine jy (y_neq rfl rfl) ?_
            refine jl_prop (fun h227 => ?_) (fun h227 => ?_)
            ·first
             | (exfalso; omega)
             | (
              refine jy (y_pick_false rfl rfl) ?_
              refine jz ?_
              refine jsk ?_
              refine jsk ?_
              refine jy (y_pick_true rfl rfl) ?_
              refine jz ?_
              refine jsk ?_
              refine jsk ?_
              refine jy (y_pick_true rfl rfl) ?_
              refine jz ?_
              refine jsk ?_
              refine jsk ?_
              refine jsk ?_
              refine jy (y_pick_true rfl rfl) ?_
              refine jz ?_
              refine jsk ?_
              refine jsk ?_
              refine jsk ?_
              refine jsk ?_
              refine jsk ?_
              refine jsk ?_
              refine jsk ?_
              refine jsk ?_
              refine jsk ?_
              refine jsk ?_
              refine jsk ?_
              refine jy (y_pick_true rfl rfl) ?_
              refine jnt ?_
              refine jc_true rfl ?_
              refine jsr ?_
              refine jz ?_
              refine jnt ?_
              refine jc_ret ?_
              refine jq_then_ret ?_
              refine jq_ret1 rfl rfl ?_
              exact fun _ hw => ⟨rfl, (hallc.next hw (by repeat first | exact ⟨_, mem0, rfl⟩ | exact ⟨_, mem1, rfl⟩ | exact ⟨_, mem2, rfl⟩ | refine List.forall_mem_cons.2 ⟨?_, ?_⟩ | exact fun _ h => absurd h List.not_mem_nil)).ch⟩
              )
            ·first
             | (exfalso; omega)
             | (
              refine jy (y_pick_false rfl rfl) ?_
              refine jz ?_
              refine jz ?_
              refine jy (y_neq rfl rfl) ?_
              refine jl_prop (fun h231 => ?_) (fun h231 => ?_)
              ·first
               | (exfalso; omega)
               | (
                refine jy (y_pick_false rfl rfl) ?_
                refine jz ?_
                refine jsk ?_
                refine jsk ?_
                refine jy (y_pick_true rfl rfl) ?_
                refine jz ?_
                refine jsk ?_
                refine jsk ?_
                refine jsk ?_
                refine jy (y_pick_true rfl rfl) ?_
                refine jz ?_
                refine jsk ?_
                refine jsk ?_
                refine jsk ?_
                refine jsk ?_
                refine jsk ?_
                refine jsk ?_
                refine jsk ?_
                refine jsk ?_
                refine jsk ?_
                refine jsk ?_
                refine jsk ?_
                refine jy (y_pick_true rfl rfl) ?_
                refine jnt ?_
                refine jc_true rfl ?_
                refine jsr ?_
                refine jz ?_
                refine jnt ?_
                refine jc_ret ?_
                refine jq_then_ret ?_
                refine jq_ret1 rfl rfl ?_
                exact fun _ hw => ⟨rfl, (hallc.next hw (by repeat first | exact ⟨_, mem0, rfl⟩ | exact ⟨_, mem1, rfl⟩ | exact ⟨_, mem2, rfl⟩ | refine List.forall_mem_cons.2 ⟨?_, ?_⟩ | exact fun _ h => absurd h List.not_mem_nil)).ch⟩
                )
              ·first
               | (exfalso; omega)
               | (
                refine jy (y_pick_false rfl rfl) ?_
                refine jz ?_
                refine jz ?_
                refine jy (y_neq rfl rfl) ?_
                refine jl_prop (fun h235 => ?_) (fun h235 => ?_)
                ·first
                 | (exfalso; omega)
                 | (
                  refine jy (y_pick_false rfl rfl) ?_
                  refine jz ?_
                  refine jsk ?_
                  refine jsk ?_
                  refine jsk ?_
                  refine jy (y_pick_true rfl rfl) ?_
                  refine jz ?_
                  refine jsk ?_
                  refine jsk ?_
                  refine jsk ?_
                  refine jsk ?_
                  refine jsk ?_
                  refine jsk ?_
                  refine jsk ?_
                  refine jsk ?_
                  refine jsk ?_
                  refine jsk ?_
                  refine jsk ?_
                  refine jy (y_pick_true rfl rfl) ?_
                  refine jnt ?_
                  refine jc_true rfl ?_
                  refine jsr ?_
                  refine jz ?_
                  refine jnt ?_
                  refine jc_ret ?_
                  refine jq_then_ret ?_
                  refine jq_ret1 rfl rfl ?_
                  exact fun _ hw => ⟨rfl, (hallc.next hw (by repeat first | exact ⟨_, mem0, rfl⟩ | exact ⟨_, mem1, rfl⟩ | exact ⟨_, mem2, rfl⟩ | refine List.forall_mem_cons.2 ⟨?_, ?_⟩ | exact fun _ h => absurd h List.not_mem_nil)).ch⟩
                  )
                ·first
                 | (exfalso; omega)
                 | (
                  refine jy (y_pick_false rfl rfl) ?_
                  refine jz ?_
                  refine jz ?_
                  refine jz ?_
                  refine jy (y_gtr rfl rfl) ?_
                  refine jl_prop (fun h240 => ?_) (fun h240 => ?_)
                  ·first
                   | (exfalso; omega)
                   | (
                    refine jy (y_pick_false rfl rfl) ?_
                    refine jz ?_
                    refine jsk ?_
                    refine jsk ?_
                    refine jsk ?_
                    refine jsk ?_
                    refine jsk ?_
                    refine jsk ?_
                    refine jsk ?_
                    refine jsk ?_
                    refine jsk ?_
                    refine jsk ?_
                    refine jsk ?_
                    refine jy (y_pick_true rfl rfl) ?_
                    refine jnt ?_
                    refine jc_true rfl ?_
                    refine jsr ?_
                    refine jz ?_
                    refine jnt ?_
                    refine jc_ret ?_
                    refine jq_then_ret ?_
                    refine jq_ret1 rfl rfl ?_
                    exact fun _ hw => ⟨rfl, (hallc.next hw (by repeat first | exact ⟨_, mem0, rfl⟩ | exact ⟨_, mem1, rfl⟩ | exact ⟨_, mem2, rfl⟩ | refine List.forall_mem_cons.2 ⟨?_, ?_⟩ | exact fun _ h => absurd h List.not_mem_nil)).ch⟩
                    )
                  ·first
                   | (exfalso; omega)
                   | (
                    refine jy (y_pick_false rfl rfl) ?_
                    refine jz ?_
                    refine jz ?_
                    refine jz ?_
                    refine jz ?_
                    first | refine jy (y_conv_fits rfl (by simp only [fits]; omega)) ?_ | refine jy (y_conv_u64 rfl) ?_
                    refine jz ?_
                    refine jz ?_
                    refine jl_as (u := .int .u64 u) (congrArg (Value.int .u64) (rfl)) ?_
                    refine jy (y_mul_u64 rfl rfl) ?_
                    refine jl_as (u := .int .u64 (n * u)) (congrArg (Value.int .u64) (by omega)) ?_
                    refine jy (y_add_u64 rfl rfl) ?_
                    refine jl_as (u := .int .u64 (a + n * u)) (congrArg (Value.int .u64) (by omega)) ?_
                    refine jz ?_
                    refine jy (y_add_u64 rfl rfl) ?_
                    refine jl_as (u := .int .u64 (a + n * u + f)) (congrArg (Value.int .u64) (by omega)) ?_
                    refine jy (y_neq rfl rfl) ?_
                    refine jl_prop (fun h253 => ?_) (fun h253 => ?_)
                    ·first
                     | (exfalso; omega)
                     | (
                      refine jy (y_pick_false rfl rfl) ?_
                      refine jnt ?_
                      refine jc_true rfl ?_
                      refine jsr ?_
                      refine jz ?_
                      refine jnt ?_
                      refine jc_ret ?_
                      refine jq_then_ret ?_
                      refine jq_ret1 rfl rfl ?_
                      exact fun _ hw => ⟨rfl, (hallc.next hw (by repeat first | exact ⟨_, mem0, rfl⟩ | exact ⟨_, mem1, rfl⟩ | exact ⟨_, mem2, rfl⟩ | refine List.forall_mem_cons.2 ⟨?_, ?_⟩ | exact fun _ h => absurd h List.not_mem_nil)).ch⟩
                      )
                    ·first
                     | (exfalso; omega)
                     | (
                      refine jy (y_pick_false rfl rfl) ?_
                      refine jnt ?_
                      refine jc_false rfl ?_
                      refine jc_skip ?_
                      refine jq_then ?_
                      refine jsr ?_
                      refine jz ?_
                      refine jst ?_
                      refine jnt ?_
                      refine jsr ?_
                      refine jz ?_
                      refine jz ?_
                      refine jpc (goes_func rfl) (fun w1 hw1 => cq (worth_any (pdTm (cutS seed 50) u) (pdP (cutS seed 50) a ⟨#[]⟩ l) ad cu w1 (ElAt.of_row (l := l) (c := Wn.c) (fun _ => rfl) rfl (hw1.get mem0)) hTf ⟨hfa, hlf⟩ (by show (l : List Wn).length ≤ 1000; first | decide | omega) (by show str8Ch.size ≤ _; decide)) (u := .tuple #[.int .u64 (a + f), .int .i64 0]) (by rw [hW1.e, hW1.v])) ?_
                      refine jz ?_
                      refine jz ?_
                      refine jz ?_
                      refine jz ?_
                      refine jz ?_
                      refine jnt ?_
                      refine jsr ?_
                      refine jz ?_
                      refine jst ?_
                      refine jnt ?_
                      refine jsr ?_
                      refine jz ?_
                      refine jz ?_
                      refine jpc (goes_func rfl) (fun w1 hw1 => cq (worth_any (pdTm (cutS seed 50) u) (pdP (cutS seed 50) a ⟨#[]⟩ []) none 0 w1 el_nil hTf ⟨hfa, (fun x hx => by cases hx)⟩ (by show ([] : List Wn).length ≤ 1000; first | decide | omega) (by show str8Ch.size ≤ _; decide)) (u := .tuple #[.int .u64 a, .int .i64 0]) (by rw [hW2.e, hW2.v])) ?_
                      refine jz ?_
                      refine jz ?_
                      refine jz ?_
                      refine jz ?_
                      refine jz ?_
                      refine jnt ?_
                      refine jsr ?_
                      refine jz ?_
                      refine jy (y_eql rfl rfl) ?_
                      refine jl_prop (fun h270 => ?_) (fun h270 => ?_)
                      ·first
                       | (exfalso; omega)
                       | (
                        refine jz ?_
                        refine jz ?_
                        refine jy (y_eql rfl rfl) ?_
                        refine jl_prop (fun h273 => ?_) (fun h273 => ?_)
                        ·first
                         | (exfalso; omega)
                         | (
                          refine jy (y_pick_true rfl rfl) ?_
                          refine jz ?_
                          refine jz ?_
                          refine jz ?_
                          refine jz ?_
                          refine jy (y_add_u64 rfl rfl) ?_
                          refine jy (y_eql rfl rfl) ?_
                          refine jl_prop (fun h280 => ?_) (fun h280 => ?_)
                          ·first
                           | (exfalso; omega)
                           | (
                            refine jy (y_pick_true rfl rfl) ?_
                            refine jz ?_
                            refine jz ?_
                            refine jz ?_
                            refine jy (y_eql rfl rfl) ?_
                            refine jl_prop (fun h285 => ?_) (fun h285 => ?_)
                            ·first
                             | (exfalso; omega)
                             | (
                              refine jy (y_pick_true rfl rfl) ?_
                              refine jz ?_
                              refine jpc (goes_func rfl) (fun w1 hw1 => fixed8_any w1) ?_
                              refine jy (y_pick_true rfl rfl) ?_
                              refine jz ?_
                              refine jnt ?_
                              refine jc_ret ?_
                              refine jq_ret1 rfl rfl ?_
                              exact fun _ hw => ⟨rfl, (hallc.next hw (by repeat first | exact ⟨_, mem0, rfl⟩ | exact ⟨_, mem1, rfl⟩ | exact ⟨_, mem2, rfl⟩ | refine List.forall_mem_cons.2 ⟨?_, ?_⟩ | exact fun _ h => absurd h List.not_mem_nil)).ch⟩
                              )
                            ·first
                             | (exfalso; omega)
                             | (
                              refine jy (y_pick_true rfl rfl) ?_
                              refine jz ?_
                              refine jsk ?_
                              refine jy (y_pick_false rfl rfl) ?_
                              refine jz ?_
                              refine jnt ?_
                              refine jc_ret ?_
                              refine jq_ret1 rfl rfl ?_
                              exact fun _ hw => ⟨rfl, (hallc.next hw (by repeat first | exact ⟨_, mem0, rfl⟩ | exact ⟨_, mem1, rfl⟩ | exact ⟨_, mem2, rfl⟩ | refine List.forall_mem_cons.2 ⟨?_, ?_⟩ | exact fun _ h => absurd h List.not_mem_nil)).ch⟩
                              )
                            )
                          ·first
                           | (exfalso; omega)
                           | (
                            refine jy (y_pick_true rfl rfl) ?_
                            refine jz ?_
                            refine jsk ?_
                            refine jsk ?_
                            refine jsk ?_
                            refine jy (y_pick_false rfl rfl) ?_
                            refine jz ?_
                            refine jsk ?_
                            refine jy (y_pick_false rfl rfl) ?_
                            refine jz ?_
                            refine jnt ?_
                            refine jc_ret ?_
                            refine jq_ret1 rfl rfl ?_
                            exact fun _ hw => ⟨rfl, (hallc.next hw (by repeat first | exact ⟨_, mem0, rfl⟩ | exact ⟨_, mem1, rfl⟩ | exact ⟨_, mem2, rfl⟩ | refine List.forall_mem_cons.2 ⟨?_, ?_⟩ | exact fun _ h => absurd h List.not_mem_nil)).ch⟩
                            )
                          )
                        ·first
                         | (exfalso; omega)
                         | (
                          refine jy (y_pick_true rfl rfl) ?_
                          refine jz ?_
                          refine jsk ?_
                          refine jsk ?_
                          refine jsk ?_
                          refine jsk ?_
                          refine jsk ?_
                          refine jy (y_pick_false rfl rfl) ?_
                          refine jz ?_
                          refine jsk ?_
                          refine jsk ?_
                          refine jsk ?_
                          refine jy (y_pick_false rfl rfl) ?_
                          refine jz ?_
                          refine jsk ?_
                          refine jy (y_pick_false rfl rfl) ?_
                          refine jz ?_
                          refine jnt ?_
                          refine jc_ret ?_
                          refine jq_ret1 rfl rfl ?_
                          exact fun _ hw => ⟨rfl, (hallc.next hw (by repeat first | exact ⟨_, mem0, rfl⟩ | exact ⟨_, mem1, rfl⟩ | exact ⟨_, mem2, rfl⟩ | refine List.forall_mem_cons.2 ⟨?_, ?_⟩ | exact fun _ h => absurd h List.not_mem_nil)).ch⟩
                          )
                        )
                      ·first
                       | (exfalso; omega)
                       | (
                        refine jz ?_
                        refine jsk ?_
                        refine jsk ?_
                        refine jy (y_pick_false rfl rfl) ?_
                        refine jz ?_
                        refine jsk ?_
                        refine jsk ?_
                        refine jsk ?_
                        refine jsk ?_
                        refine jsk ?_
                        refine jy (y_pick_false rfl rfl) ?_
                        refine jz ?_
                        refine jsk ?_
                        refine jsk ?_
                        refine jsk ?_
                        refine jy (y_pick_false rfl rfl) ?_
                        refine jz ?_
                        refine jsk ?_
                        refine jy (y_pick_false rfl rfl) ?_
                        refine jz ?_
                        refine jnt ?_
                        refine jc_ret ?_
                        refine jq_ret1 rfl rfl ?_
                        exact fun _ hw => ⟨rfl, (hallc.next hw (by repeat first | exact ⟨_, mem0, rfl⟩ | exact ⟨_, mem1, rfl⟩ | exact ⟨_, mem2, rfl⟩ | refine List.forall_mem_cons.2 ⟨?_, ?_⟩ | exact fun _ h => absurd h List.not_mem_nil)).ch⟩
                        )
                      )
                    )
                  )
                )
              )
            )
          )
     ·skip
      refine jf_m (by intros; rename_i h; first | exact h | exact h.pop | exact h.pop.pop | exact h.pop.pop.pop | exact h.pop.pop.pop.pop | exact h.pop.pop.pop.pop.pop | exact h.pop.pop.pop.pop.pop.pop | exact h.part .nil) rfl rfl (by decide) rfl (m_alloc) (fun b12 => ?_)
      refine jf_pcall (by intro _ h; first | exact h | exact h.pop | exact h.pop.pop | exact h.pop.pop.pop | exact h.pop.pop.pop.pop | exact h.pop.pop.pop.pop.pop | exact h.pop.pop.pop.pop.pop.pop | exact h.part .nil) rfl rfl (by decide) rfl (goes_func rfl) (fun w1 hw1 => pcall hw1 (kroot_any _ bk.1 bk.2 (cutS seed 50) 2 w1 (hkk.keep hw1))) ?_
      refine jf_pcall (by intro _ h; first | exact h | exact h.pop | exact h.pop.pop | exact h.pop.pop.pop | exact h.pop.pop.pop.pop | exact h.pop.pop.pop.pop.pop | exact h.pop.pop.pop.pop.pop.pop | exact h.part .nil) rfl rfl (by decide) rfl (goes_func rfl) (fun w1 hw1 => pcall hw1 (anchor_any bc str8Tks 9 w1 (hoc.keep hw1).at)) ?_
      refine jf_take rfl rfl (by decide) rfl (y_build (Built.cell rfl rfl rfl (by repeat constructor) (Built.cell rfl rfl rfl (by repeat constructor) (Built.cell rfl rfl rfl (by repeat constructor) (Built.cell rfl rfl rfl (by repeat constructor) (Built.cell rfl rfl rfl (by repeat constructor) Built.nil)))))) ?_
      refine jf_nil ?_
      refine jst ?_
      refine jnt ?_
      refine jsr ?_
      refine jz ?_
      first | refine jy (y_conv_fits rfl (by simp only [fits]; omega)) ?_ | refine jy (y_conv_u64 rfl) ?_
      refine jy (y_add_u64 rfl rfl) ?_
      refine jl_as (u := .int .u64 a) (congrArg (Value.int .u64) (by omega)) ?_
      refine jz ?_
      refine jnt ?_
      refine jsr ?_
      refine jz ?_
      refine jz ?_
      refine jz ?_
      refine jpc (goes_func rfl) (fun w1 hw1 => vouch_any str8Ch a w1 (by decide) (by simp only [fits]; omega)) ?_
      refine jl_ucallH rfl (by decide) rfl (goes_func rfl) (by rfl) (fun w1 hw1 => ksign_ok [bk.2] bk.1 bk.2 (cutS seed 50) 2 w1 (hkk.keep hw1) (by simp) (by decide) (by omega) (vouch str8Ch a) (by have := vouch_small str8Ch a; omega) (0) (by decide) (hw1.get mem1)) (by first | exact rep0 | exact rep1 | exact rep2 | exact rep3 | exact rep4 | exact rep5) ?_
      refine jz ?_
      refine jz ?_
      refine jz ?_
      refine jz ?_
      refine jz ?_
      refine jnt ?_
      refine jsr ?_
      refine jy (y_indexAddr_arr rfl rfl (by omega) (by omega) (by simp only [Int.toNat_natCast, Int.reduceSub, Int.reduceAdd, Int.reduceToNat, Nat.reduceMul, Nat.reduceAdd, Nat.zero_add, Nat.mul_one, Nat.zero_mul, Nat.add_zero]; exact rfl)) ?_
      refine jy (y_load_old rfl hx0.1 hx0.2) ?_
      refine jy (y_rem rfl rfl (by omega) (by omega)) ?_
      first | refine jy (y_conv_fits rfl (by simp only [fits]; omega)) ?_
      refine jl_as (u := .int .i64 ((k : Nat) : Int)) (congrArg (Value.int .i64) (by omega)) ?_
      refine jz ?_
      refine jnt ?_
      refine jsr ?_
      refine jz ?_
      refine jz ?_
      refine jpc (goes_func rfl) (fun w1 hw1 => token_any bc str8Tks 9 w1 (hoc.keep hw1).at ((k : Nat) : Int)) ?_
      refine jz ?_
      refine jz ?_
      refine jl_as (u := .string (tokS str8Tks 9 k)) (congrArg Value.string (@tok_in str8Tks 9 ((k : Nat) : Int) ⟨by omega, by omega⟩).1) ?_
      refine jz ?_
      refine jl_as (u := .int .i64 0) (congrArg (Value.int .i64) (@tok_in str8Tks 9 ((k : Nat) : Int) ⟨by omega, by omega⟩).2) ?_
      refine jz ?_
      refine jz ?_
      refine jnt ?_
      refine jsr ?_
      refine jz ?_
      refine jz ?_
      refine jz ?_
      refine jy (y_build (Built.cell rfl rfl rfl (by repeat constructor) (Built.cell rfl rfl rfl (by repeat constructor) (Built.cell rfl rfl rfl (by repeat constructor) Built.nil)))) ?_
      refine jl_m rfl (by decide) rfl (m_alloc) (fun b19 => ?_)
      refine jst ?_
      refine jnt ?_
      refine jsr ?_
      refine jz ?_
      refine jnt ?_
      refine jc_seq ?_
      refine jsr ?_
      refine jz ?_
      refine jnt ?_
      refine jc_block ?_
      refine jc_loop3 (fun (i : Nat) (ad : Option Addr) (cu : Nat) => [(5, .pointer (some ⟨b5, 0, none⟩)), (7, .pointer (some ⟨bk.1, 0, none⟩)), (9, .pointer (some ⟨bc, 0, none⟩)), (11, .string str8Ch), (12, .pointer (some ⟨b12, 0, none⟩)), (13, .int .u64 a), (15, .int .i64 0), (16, .int .i64 ((k : Nat) : Int)), (17, .string (tokS str8Tks 9 k)), (18, .int .i64 0), (19, .pointer (some ⟨b19, 0, none⟩)), (20, .int .u64 (sumF (pdL (cutS seed 50) e1 e2 e3 i))), (21, .int .u64 ((i : Nat) : Int))]) (fun (i : Nat) (ad : Option Addr) (cu : Nat) => fun w' => i ≤ 2 ∧ Hp wc [bk.2] [.row ad ((pdL (cutS seed 50) e1 e2 e3 i)).length cu 45 10 (((pdL (cutS seed 50) e1 e2 e3 i)).flatMap Wn.c), .cells b19 [.int .u64 a, .string (signK (cutS seed 50) 2 0 (vouch str8Ch a)), .string (tokS str8Tks 9 k), .slice ad ((pdL (cutS seed 50) e1 e2 e3 i).length) cu], .cells b12 (Tm.c (pdTm (cutS seed 50) u)), .cells bk.2 [.int .i64 ((i + 1 : Nat) : Int), .int .i64 ((2 ^ 2 : Nat) : Int)]] w') (fun (i : Nat) (ad : Option Addr) (cu : Nat) => 2 - i) 0 none 0 ?_ ?_ ?_
      ·exact ⟨rfl, rfl, rfl, rfl, rfl, rfl, rfl, rfl, rfl, rfl, rfl, lk_int rfl sumF_0.symm, lk_int rfl rfl, trivial⟩
      ·exact fun _ h => ⟨by omega, h.nilrow 45 10⟩
      ·intro i ad cu
       refine jc_and (fun hi => ?_)
       refine jc_seq ?_
       refine jsr ?_
       refine jz ?_
       refine jy (y_lss rfl rfl) ?_
       refine jl_prop (fun h101 => ?_) (fun h101 => ?_)
       ·first
        | (exfalso; omega)
        | (
         have hi2 : i < 2 := by omega
         have hWf := pd_fit (seed := (cutS seed 50)) hin i (by omega)
         have hTk : (pdT e1 e2 e3 i).Fit := ⟨hWf.t.serial, hWf.t.face, hWf.t.wins, hWf.t.many, hWf.t.client⟩
         have hxi : CellO wc [bk.2] b5 (2 + i) (.int .u64 (pdC e2 e3 i)) := by
          rcases (show i = 0 ∨ i = 1 by omega) with rfl | rfl
          ·exact hx2
          ·exact hx3
         have hps := pd_sum (seed := (cutS seed 50)) (b := e1) (d := e3) h2.1 i
         have hpl := pd_len (seed := (cutS seed 50)) (b := e1) (c := e2) (d := e3) i
         refine jnt ?_
         refine jc_true rfl ?_
         refine jc_skip ?_
         refine jq_then ?_
         refine jc_seq ?_
         refine jc_block ?_
         refine jsr ?_
         refine jy (y_indexAddr_arr rfl rfl (by omega) (by omega) (by simp only [Int.toNat_natCast, Int.reduceSub, Int.reduceAdd, Int.reduceToNat, Nat.reduceMul, Nat.reduceAdd, Nat.zero_add, Nat.mul_one, Nat.zero_mul, Nat.add_zero]; exact rfl)) ?_
         refine jy (y_load_old rfl hx1.1 hx1.2) ?_
         refine jy (y_rem rfl rfl (by omega) (by omega)) ?_
         refine jy (y_add_u64 rfl rfl) ?_
         refine jl_as (u := .int .u64 (pdM e1)) (congrArg (Value.int .u64) (by unfold pdM; omega)) ?_
         refine jz ?_
         refine jnt ?_
         refine jc_seq ?_
         refine jc_sched 25 [(0, true), (1, true), (2, true), (3, true), (4, true), (5, true), (6, true), (7, true), (8, true), (9, true), (10, true), (11, true), (12, true), (13, true), (14, true), (15, true), (16, true), (17, true), (18, true), (19, true), (20, true), (21, true), (22, true), (23, true), (24, false)] rfl (by kernel_rfl) (fun _ _ _ _ h => h) (fun _ h => h.drew) ?_
         simp only [pickO, nthO, List.drop_succ_cons, List.drop_zero]
         refine jkz ?_
         refine jkz ?_
         refine jky (y_indexAddr_arr rfl rfl (by omega) (by omega) (by simp only [Int.toNat_natCast, Int.reduceSub, Int.reduceAdd, Int.reduceToNat, Nat.reduceMul, Nat.reduceAdd, Nat.zero_add, Nat.mul_one, Nat.zero_mul, Nat.add_zero]; exact rfl)) ?_
         refine jky (y_load_old rfl hx2.1 hx2.2) ?_
         refine jky (y_rem rfl rfl (by omega) (by omega)) ?_
         refine jky (y_indexAddr_arr rfl rfl (by omega) (by omega) (by simp only [Int.toNat_natCast, Int.reduceSub, Int.reduceAdd, Int.reduceToNat, Nat.reduceMul, Nat.reduceAdd, Nat.zero_add, Nat.mul_one, Nat.zero_mul, Nat.add_zero]; exact rfl)) ?_
         refine jky (y_load_old rfl hx3.1 hx3.2) ?_
         refine jkz ?_
         refine jky (y_add_u64 rfl rfl) ?_
         refine js_as (u := .int .u64 (pdM e1 + 1)) (congrArg (Value.int .u64) (by omega)) ?_
         refine jky (y_rem rfl rfl (by omega) (by omega)) ?_
         refine js_as (u := .int .u64 (pdN e1 e3)) (congrArg (Value.int .u64) (rfl)) ?_
         refine jkz ?_
         refine jkz ?_
         refine jky (y_add_u64 rfl rfl) ?_
         refine js_as (u := .int .u64 (2 + ((i : Nat) : Int))) (congrArg (Value.int .u64) (by omega)) ?_
         refine jky (y_indexAddr_arr (off := 2 + i) rfl rfl (by omega) (by omega) (by omega)) ?_
         refine jky (y_load_old rfl hxi.1 hxi.2) ?_
         refine jky (y_build (Built.cell rfl rfl rfl (by repeat constructor) (Built.cell rfl rfl rfl (by repeat constructor) (Built.cell rfl rfl rfl (by repeat constructor) (Built.cell rfl rfl rfl (by repeat constructor) (Built.cell rfl rfl rfl (by repeat constructor) (Built.cell rfl rfl rfl (by repeat constructor) Built.nil))))))) ?_
         refine jky (y_indexAddr_arr rfl rfl (by omega) (by omega) (by simp only [Int.toNat_natCast, Int.reduceSub, Int.reduceAdd, Int.reduceToNat, Nat.reduceMul, Nat.reduceAdd, Nat.zero_add, Nat.mul_one, Nat.zero_mul, Nat.add_zero]; exact rfl)) ?_
         refine jky (y_load_old rfl hx1.1 hx1.2) ?_
         refine jkz ?_
         refine jky (y_mul_u64 rfl rfl) ?_
         refine js_as (u := .int .u64 (7 * ((i : Nat) : Int))) (congrArg (Value.int .u64) (by omega)) ?_
         refine jky (y_add_u64 rfl rfl) ?_
         refine jkz ?_
         refine jky (y_rem rfl rfl (by omega) (by omega)) ?_
         refine js_as (u := .int .u64 (pdD e1 i)) (congrArg (Value.int .u64) (rfl)) ?_
         refine jky (y_build (Built.agg rfl rfl rfl (by repeat constructor) (Built.cell rfl rfl rfl (by repeat constructor) (Built.cell rfl rfl rfl (by repeat constructor) Built.nil)))) ?_
         refine js_m (by intros; rename_i h; first | exact h | exact h.pop | exact h.pop.pop | exact h.pop.pop.pop | exact h.pop.pop.pop.pop | exact h.pop.pop.pop.pop.pop | exact h.pop.pop.pop.pop.pop.pop | exact h.part .nil) rfl (by decide) rfl (m_alloc) (fun b23 => ?_)
         refine js_nil ?_
         refine jst ?_
         refine jnt ?_
         refine jsr ?_
         refine jz ?_
         refine jz ?_
         refine jz ?_
         refine jz ?_
         refine jpc (goes_func rfl) (fun w1 hw1 => commit_any str8Sl (pdD e1 i) w1 (by decide) hWf.drawn) ?_
         refine jz ?_
         refine jz ?_
         refine jst ?_
         refine jnt ?_
         refine jsr ?_
         refine jz ?_
         refine jz ?_
         refine jz ?_
         refine jpc (goes_func rfl) (fun w1 hw1 => text_any (pdT e1 e2 e3 i) w1 hTk (show str8Ch.size ≤ 1000000000 by decide) (by have := commitS_size str8Sl (pdD e1 i); show (commitS str8Sl (pdD e1 i)).size ≤ _; omega)) ?_
         refine jl_ucallH rfl (by decide) rfl (goes_func rfl) (by rfl) (fun w1 hw1 => ksign_ok [bk.2] bk.1 bk.2 (cutS seed 50) 2 w1 (hkk.keep hw1) (by simp) (by decide) (by omega) (tkText (pdT e1 e2 e3 i)) (by have := tkText_small (pdT e1 e2 e3 i); omega) (i + 1) (by show i + 1 < 4; omega) (hw1.get mem4)) (by first | exact rep0 | exact rep1 | exact rep2 | exact rep3 | exact rep4 | exact rep5) ?_
         refine jz ?_
         refine jz ?_
         refine jl_as (u := .string (pdS (cutS seed 50) e1 e2 e3 i)) rfl ?_
         refine jz ?_
         refine jz ?_
         refine jz ?_
         refine jnt ?_
         refine jsr ?_
         refine jz ?_
         refine jz ?_
         refine jz ?_
         refine jst ?_
         refine jnt ?_
         refine jc_seq ?_
         refine jc_world (fun _ h => h.cast (H' := [.cells b23 (Wn.c (pdW (cutS seed 50) e1 e2 e3 i)), .row ad ((pdL (cutS seed 50) e1 e2 e3 i)).length cu 45 10 (((pdL (cutS seed 50) e1 e2 e3 i)).flatMap Wn.c), .cells b19 [.int .u64 a, .string (signK (cutS seed 50) 2 0 (vouch str8Ch a)), .string (tokS str8Tks 9 k), .slice ad ((pdL (cutS seed 50) e1 e2 e3 i).length) cu], .cells b12 (Tm.c (pdTm (cutS seed 50) u)), .cells bk.2 [.int .i64 ((i + 1 + 1 : Nat) : Int), .int .i64 ((2 ^ 2 : Nat) : Int)]]) rfl) ?_
         cases hI : pdI e1 e2 e3 i
         ·skip
          refine jc_draw (by kernel_rfl) (fun _ h => h.drew) ?_
          refine juz ?_
          refine ju_call rfl (by decide) rfl (goes_func rfl) (fun w1 hw1 => pcall hw1 (kroot_any _ bk.1 bk.2 (cutS seed 50) 2 w1 (hkk.keep hw1))) ?_
          refine juz ?_
          refine ju_call rfl (by decide) rfl (goes_func rfl) (fun w1 hw1 => pcall hw1 (cq (won_any (rootK (cutS seed 50) 2) (pdW (cutS seed 50) e1 e2 e3 i) w1 hWf (show str8Sl.size ≤ 1000000 by decide)) (u := .tuple #[.int .u64 0, .int .i64 13]) (by rw [pd_wonV hin i (by omega), pd_won hin i (by omega), hI] <;> rfl))) ?_
          refine juz ?_
          refine juz ?_
          refine juz ?_
          refine juz ?_
          refine juz ?_
          refine ju_nil ?_
          refine jq_then ?_
          refine jsr ?_
          refine jz ?_
          refine jz ?_
          refine jz ?_
          refine jz ?_
          refine jz ?_
          refine jz ?_
          refine jz ?_
          refine jz ?_
          refine jz ?_
          refine jpc (goes_func rfl) (fun w1 hw1 => cq (wins_any (pdD e1 i) (pdC e2 e3 i) (pdN e1 e3) (pdM e1) w1 hWf.drawn hWf.t.client hWf.t.wins hWf.t.many) (u := .tuple #[.bool false, .int .i64 0]) (by rw [show winsB (pdD e1 i) (pdC e2 e3 i) (pdN e1 e3) (pdM e1) = false from hI, pd_E hin i])) ?_
          refine jz ?_
          refine jz ?_
          refine jl_as (u := .bool false) rfl ?_
          refine jz ?_
          refine jz ?_
          refine jz ?_
          refine jnt ?_
          refine jc_seq ?_
          refine jsr ?_
          refine jz ?_
          refine jy (y_neq rfl rfl) ?_
          refine jl_prop (fun h171 => ?_) (fun h171 => ?_)
          ·first
           | (exfalso; omega)
           | (
            refine jz ?_
            refine jsk ?_
            refine jsk ?_
            refine jy (y_pick_true rfl rfl) ?_
            refine jz ?_
            refine jsk ?_
            refine jsk ?_
            refine jsk ?_
            refine jsk ?_
            refine jy (y_pick_true rfl rfl) ?_
            refine jz ?_
            refine jsk ?_
            refine jsk ?_
            refine jsk ?_
            refine jsk ?_
            refine jsk ?_
            refine jsk ?_
            refine jsk ?_
            refine jsk ?_
            refine jy (y_pick_true rfl rfl) ?_
            refine jz ?_
            refine jsk ?_
            refine jsk ?_
            refine jsk ?_
            refine jsk ?_
            refine jsk ?_
            refine jsk ?_
            refine jy (y_pick_true rfl rfl) ?_
            refine jnt ?_
            refine jc_true rfl ?_
            refine jsr ?_
            refine jz ?_
            refine jnt ?_
            refine jc_ret ?_
            refine jq_then_ret ?_
            refine jq_block_ret ?_
            refine jq_then_ret ?_
            refine jq_then_ret ?_
            refine jq_block_ret ?_
            refine jq_then_ret ?_
            refine jq_ret1 rfl rfl ?_
            exact fun _ hw => ⟨rfl, (hallc.next hw (by repeat first | exact ⟨_, mem0, rfl⟩ | exact ⟨_, mem1, rfl⟩ | exact ⟨_, mem2, rfl⟩ | refine List.forall_mem_cons.2 ⟨?_, ?_⟩ | exact fun _ h => absurd h List.not_mem_nil)).ch⟩
            )
          ·first
           | (exfalso; omega)
           | (
            refine jz ?_
            refine jz ?_
            refine jy (y_neq rfl rfl) ?_
            refine jl_prop (fun h174 => ?_) (fun h174 => ?_)
            ·first
             | (exfalso; omega)
             | (
              refine jy (y_pick_false rfl rfl) ?_
              refine jz ?_
              refine jsk ?_
              refine jsk ?_
              refine jsk ?_
              refine jsk ?_
              refine jy (y_pick_true rfl rfl) ?_
              refine jz ?_
              refine jsk ?_
              refine jsk ?_
              refine jsk ?_
              refine jsk ?_
              refine jsk ?_
              refine jsk ?_
              refine jsk ?_
              refine jsk ?_
              refine jy (y_pick_true rfl rfl) ?_
              refine jz ?_
              refine jsk ?_
              refine jsk ?_
              refine jsk ?_
              refine jsk ?_
              refine jsk ?_
              refine jsk ?_
              refine jy (y_pick_true rfl rfl) ?_
              refine jnt ?_
              refine jc_true rfl ?_
              refine jsr ?_
              refine jz ?_
              refine jnt ?_
              refine jc_ret ?_
              refine jq_then_ret ?_
              refine jq_block_ret ?_
              refine jq_then_ret ?_
              refine jq_then_ret ?_
              refine jq_block_ret ?_
              refine jq_then_ret ?_
              refine jq_ret1 rfl rfl ?_
              exact fun _ hw => ⟨rfl, (hallc.next hw (by repeat first | exact ⟨_, mem0, rfl⟩ | exact ⟨_, mem1, rfl⟩ | exact ⟨_, mem2, rfl⟩ | refine List.forall_mem_cons.2 ⟨?_, ?_⟩ | exact fun _ h => absurd h List.not_mem_nil)).ch⟩
              )
            ·first
             | (exfalso; omega)
             | (
              refine jy (y_pick_false rfl rfl) ?_
              refine jz ?_
              refine jz ?_
              refine jy (y_eql rfl rfl) ?_
              refine jl_prop (fun h178 => ?_) (fun h178 => ?_)
              ·first
               | (exfalso; omega)
               | (
                refine jz ?_
                refine jy (y_neq_bool rfl rfl) ?_
                refine jl_as (u := .bool true) rfl ?_
                refine jy (y_pick_false rfl rfl) ?_
                refine jz ?_
                refine jsk ?_
                refine jsk ?_
                refine jsk ?_
                refine jsk ?_
                refine jsk ?_
                refine jsk ?_
                refine jsk ?_
                refine jsk ?_
                refine jy (y_pick_true rfl rfl) ?_
                refine jz ?_
                refine jsk ?_
                refine jsk ?_
                refine jsk ?_
                refine jsk ?_
                refine jsk ?_
                refine jsk ?_
                refine jy (y_pick_true rfl rfl) ?_
                refine jnt ?_
                refine jc_true rfl ?_
                refine jsr ?_
                refine jz ?_
                refine jnt ?_
                refine jc_ret ?_
                refine jq_then_ret ?_
                refine jq_block_ret ?_
                refine jq_then_ret ?_
                refine jq_then_ret ?_
                refine jq_block_ret ?_
                refine jq_then_ret ?_
                refine jq_ret1 rfl rfl ?_
                exact fun _ hw => ⟨rfl, (hallc.next hw (by repeat first | exact ⟨_, mem0, rfl⟩ | exact ⟨_, mem1, rfl⟩ | exact ⟨_, mem2, rfl⟩ | refine List.forall_mem_cons.2 ⟨?_, ?_⟩ | exact fun _ h => absurd h List.not_mem_nil)).ch⟩
                )
              ·first
               | (exfalso; omega)
               | (
                refine jz ?_
                refine jy (y_neq_bool rfl rfl) ?_
                refine jl_as (u := .bool false) rfl ?_
                refine jy (y_pick_false rfl rfl) ?_
                refine jz ?_
                refine jz ?_
                refine jz ?_
                refine jsk ?_
                refine jsk ?_
                refine jsk ?_
                refine jsk ?_
                refine jsk ?_
                refine jy (y_pick_false rfl rfl) ?_
                refine jy (y_pick_false rfl rfl) ?_
                refine jz ?_
                refine jz ?_
                refine jz ?_
                refine jz ?_
                refine jz ?_
                refine jy (y_neq rfl rfl) ?_
                refine jl_prop (fun h197 => ?_) (fun h197 => ?_)
                ·first
                 | (exfalso; omega)
                 | (
                  refine jy (y_pick_true rfl rfl) ?_
                  refine jy (y_pick_false rfl rfl) ?_
                  refine jnt ?_
                  refine jc_true rfl ?_
                  refine jsr ?_
                  refine jz ?_
                  refine jnt ?_
                  refine jc_ret ?_
                  refine jq_then_ret ?_
                  refine jq_block_ret ?_
                  refine jq_then_ret ?_
                  refine jq_then_ret ?_
                  refine jq_block_ret ?_
                  refine jq_then_ret ?_
                  refine jq_ret1 rfl rfl ?_
                  exact fun _ hw => ⟨rfl, (hallc.next hw (by repeat first | exact ⟨_, mem0, rfl⟩ | exact ⟨_, mem1, rfl⟩ | exact ⟨_, mem2, rfl⟩ | refine List.forall_mem_cons.2 ⟨?_, ?_⟩ | exact fun _ h => absurd h List.not_mem_nil)).ch⟩
                  )
                ·first
                 | (exfalso; omega)
                 | (
                  refine jy (y_pick_true rfl rfl) ?_
                  refine jy (y_pick_false rfl rfl) ?_
                  refine jnt ?_
                  refine jc_false rfl ?_
                  refine jc_skip ?_
                  refine jq_then ?_
                  refine jsr ?_
                  refine jz ?_
                  refine jnt ?_
                  refine jc_false rfl ?_
                  refine jc_skip ?_
                  refine jq_block ?_
                  refine jq_then ?_
                  refine jc_region ?_
                  refine jz ?_
                  refine jy (y_add_u64 rfl rfl) ?_
                  refine jz ?_
                  refine jl_nil ?_
                  refine jq_round3 (i := i) (j := ad) (l := cu) (i + 1) ad cu ?_ ?_ ?_
                  ·omega
                  ·exact ⟨rfl, rfl, rfl, rfl, rfl, rfl, rfl, rfl, rfl, rfl, rfl, lk_int rfl (by rw [pd_no hI]), lk_int rfl (by omega), trivial⟩
                  ·exact fun _ h => ⟨by omega, h.pop.cast (by rw [pd_no hI])⟩
                  )
                )
              )
            )
         ·skip
          refine jc_draw (by kernel_rfl) (fun _ h => h.drew) ?_
          refine juz ?_
          refine ju_call rfl (by decide) rfl (goes_func rfl) (fun w1 hw1 => pcall hw1 (kroot_any _ bk.1 bk.2 (cutS seed 50) 2 w1 (hkk.keep hw1))) ?_
          refine juz ?_
          refine ju_call rfl (by decide) rfl (goes_func rfl) (fun w1 hw1 => pcall hw1 (cq (won_any (rootK (cutS seed 50) 2) (pdW (cutS seed 50) e1 e2 e3 i) w1 hWf (show str8Sl.size ≤ 1000000 by decide)) (u := .tuple #[.int .u64 (e2 % 1000), .int .i64 0]) (by rw [pd_wonV hin i (by omega), pd_won hin i (by omega), hI] <;> rfl))) ?_
          refine juz ?_
          refine juz ?_
          refine juz ?_
          refine juz ?_
          refine juz ?_
          refine ju_nil ?_
          refine jq_then ?_
          refine jsr ?_
          refine jz ?_
          refine jz ?_
          refine jz ?_
          refine jz ?_
          refine jz ?_
          refine jz ?_
          refine jz ?_
          refine jz ?_
          refine jz ?_
          refine jpc (goes_func rfl) (fun w1 hw1 => cq (wins_any (pdD e1 i) (pdC e2 e3 i) (pdN e1 e3) (pdM e1) w1 hWf.drawn hWf.t.client hWf.t.wins hWf.t.many) (u := .tuple #[.bool true, .int .i64 0]) (by rw [show winsB (pdD e1 i) (pdC e2 e3 i) (pdN e1 e3) (pdM e1) = true from hI, pd_E hin i])) ?_
          refine jz ?_
          refine jz ?_
          refine jl_as (u := .bool true) rfl ?_
          refine jz ?_
          refine jz ?_
          refine jz ?_
          refine jnt ?_
          refine jc_seq ?_
          refine jsr ?_
          refine jz ?_
          refine jy (y_neq rfl rfl) ?_
          refine jl_prop (fun h171 => ?_) (fun h171 => ?_)
          ·first
           | (exfalso; omega)
           | (
            refine jz ?_
            refine jsk ?_
            refine jsk ?_
            refine jy (y_pick_true rfl rfl) ?_
            refine jz ?_
            refine jsk ?_
            refine jsk ?_
            refine jsk ?_
            refine jsk ?_
            refine jy (y_pick_true rfl rfl) ?_
            refine jz ?_
            refine jsk ?_
            refine jsk ?_
            refine jsk ?_
            refine jsk ?_
            refine jsk ?_
            refine jsk ?_
            refine jsk ?_
            refine jsk ?_
            refine jy (y_pick_true rfl rfl) ?_
            refine jz ?_
            refine jsk ?_
            refine jsk ?_
            refine jsk ?_
            refine jsk ?_
            refine jsk ?_
            refine jsk ?_
            refine jy (y_pick_true rfl rfl) ?_
            refine jnt ?_
            refine jc_true rfl ?_
            refine jsr ?_
            refine jz ?_
            refine jnt ?_
            refine jc_ret ?_
            refine jq_then_ret ?_
            refine jq_block_ret ?_
            refine jq_then_ret ?_
            refine jq_then_ret ?_
            refine jq_block_ret ?_
            refine jq_then_ret ?_
            refine jq_ret1 rfl rfl ?_
            exact fun _ hw => ⟨rfl, (hallc.next hw (by repeat first | exact ⟨_, mem0, rfl⟩ | exact ⟨_, mem1, rfl⟩ | exact ⟨_, mem2, rfl⟩ | refine List.forall_mem_cons.2 ⟨?_, ?_⟩ | exact fun _ h => absurd h List.not_mem_nil)).ch⟩
            )
          ·first
           | (exfalso; omega)
           | (
            refine jz ?_
            refine jz ?_
            refine jy (y_neq rfl rfl) ?_
            refine jl_prop (fun h174 => ?_) (fun h174 => ?_)
            ·first
             | (exfalso; omega)
             | (
              refine jy (y_pick_false rfl rfl) ?_
              refine jz ?_
              refine jsk ?_
              refine jsk ?_
              refine jsk ?_
              refine jsk ?_
              refine jy (y_pick_true rfl rfl) ?_
              refine jz ?_
              refine jsk ?_
              refine jsk ?_
              refine jsk ?_
              refine jsk ?_
              refine jsk ?_
              refine jsk ?_
              refine jsk ?_
              refine jsk ?_
              refine jy (y_pick_true rfl rfl) ?_
              refine jz ?_
              refine jsk ?_
              refine jsk ?_
              refine jsk ?_
              refine jsk ?_
              refine jsk ?_
              refine jsk ?_
              refine jy (y_pick_true rfl rfl) ?_
              refine jnt ?_
              refine jc_true rfl ?_
              refine jsr ?_
              refine jz ?_
              refine jnt ?_
              refine jc_ret ?_
              refine jq_then_ret ?_
              refine jq_block_ret ?_
              refine jq_then_ret ?_
              refine jq_then_ret ?_
              refine jq_block_ret ?_
              refine jq_then_ret ?_
              refine jq_ret1 rfl rfl ?_
              exact fun _ hw => ⟨rfl, (hallc.next hw (by repeat first | exact ⟨_, mem0, rfl⟩ | exact ⟨_, mem1, rfl⟩ | exact ⟨_, mem2, rfl⟩ | refine List.forall_mem_cons.2 ⟨?_, ?_⟩ | exact fun _ h => absurd h List.not_mem_nil)).ch⟩
              )
            ·first
             | (exfalso; omega)
             | (
              refine jy (y_pick_false rfl rfl) ?_
              refine jz ?_
              refine jz ?_
              refine jy (y_eql rfl rfl) ?_
              refine jl_prop (fun h178 => ?_) (fun h178 => ?_)
              ·first
               | (exfalso; omega)
               | (
                refine jz ?_
                refine jy (y_neq_bool rfl rfl) ?_
                refine jl_as (u := .bool false) rfl ?_
                refine jy (y_pick_false rfl rfl) ?_
                refine jz ?_
                refine jz ?_
                refine jz ?_
                refine jz ?_
                refine jz ?_
                refine jz ?_
                refine jz ?_
                refine jl_as (u := .int .u64 (e2 % 1000)) (congrArg (Value.int .u64) (rfl)) ?_
                refine jy (y_neq rfl rfl) ?_
                refine jl_prop (fun h189 => ?_) (fun h189 => ?_)
                ·first
                 | (exfalso; omega)
                 | (
                  refine jy (y_pick_true rfl rfl) ?_
                  refine jy (y_pick_false rfl rfl) ?_
                  refine jz ?_
                  refine jsk ?_
                  refine jsk ?_
                  refine jsk ?_
                  refine jsk ?_
                  refine jsk ?_
                  refine jsk ?_
                  refine jy (y_pick_true rfl rfl) ?_
                  refine jnt ?_
                  refine jc_true rfl ?_
                  refine jsr ?_
                  refine jz ?_
                  refine jnt ?_
                  refine jc_ret ?_
                  refine jq_then_ret ?_
                  refine jq_block_ret ?_
                  refine jq_then_ret ?_
                  refine jq_then_ret ?_
                  refine jq_block_ret ?_
                  refine jq_then_ret ?_
                  refine jq_ret1 rfl rfl ?_
                  exact fun _ hw => ⟨rfl, (hallc.next hw (by repeat first | exact ⟨_, mem0, rfl⟩ | exact ⟨_, mem1, rfl⟩ | exact ⟨_, mem2, rfl⟩ | refine List.forall_mem_cons.2 ⟨?_, ?_⟩ | exact fun _ h => absurd h List.not_mem_nil)).ch⟩
                  )
                ·first
                 | (exfalso; omega)
                 | (
                  refine jy (y_pick_true rfl rfl) ?_
                  refine jy (y_pick_false rfl rfl) ?_
                  refine jz ?_
                  refine jz ?_
                  refine jz ?_
                  refine jz ?_
                  refine jsk ?_
                  refine jsk ?_
                  refine jy (y_pick_false rfl rfl) ?_
                  refine jy (y_pick_false rfl rfl) ?_
                  refine jnt ?_
                  refine jc_false rfl ?_
                  refine jc_skip ?_
                  refine jq_then ?_
                  refine jsr ?_
                  refine jz ?_
                  refine jnt ?_
                  refine jc_true rfl ?_
                  refine jsr ?_
                  refine jz ?_
                  refine jz ?_
                  refine jy (y_add_u64 rfl rfl) ?_
                  refine jl_as (u := .int .u64 (sumF (pdL (cutS seed 50) e1 e2 e3 i) + e2 % 1000)) (congrArg (Value.int .u64) (by omega)) ?_
                  refine jz ?_
                  refine jnt ?_
                  refine jc_region ?_
                  refine jz ?_
                  refine jz ?_
                  refine jz ?_
                  refine jl_m rfl (by decide) rfl (m_buildSlice (size := 10) (by decide) (Built.agg rfl rfl rfl (by repeat constructor) Built.nil)) (fun b207 => ?_)
                  refine jl_m2 rfl (by decide) rfl (m_append rfl rfl (by first | exact del0 | exact del1 | exact del2 | exact del3 | exact del4) (by first | exact del0 | exact del1 | exact del2 | exact del3 | exact del4) rfl (by omega) (by omega)) (fun a208 c208 => ?_)
                  refine jz ?_
                  refine jst ?_
                  refine jl_nil ?_
                  refine jq_block ?_
                  refine jq_then ?_
                  refine jc_region ?_
                  refine jz ?_
                  refine jy (y_add_u64 rfl rfl) ?_
                  refine jz ?_
                  refine jl_nil ?_
                  refine jq_round3 (i := i) (j := ad) (l := cu) (i + 1) a208 c208 ?_ ?_ ?_
                  ·omega
                  ·exact ⟨rfl, rfl, rfl, rfl, rfl, rfl, rfl, rfl, rfl, rfl, rfl, lk_int rfl (by rw [pd_yes hI, sumF_snoc]; rfl), lk_int rfl (by omega), trivial⟩
                  ·exact fun _ h => ⟨by omega, (h.part (F := [.row a208 ((pdL (cutS seed 50) e1 e2 e3 i).length + 1) c208 45 10 ((pdL (cutS seed 50) e1 e2 e3 i).flatMap Wn.c ++ Wn.c (pdW (cutS seed 50) e1 e2 e3 i)), .cells b19 [.int .u64 a, .string (signK (cutS seed 50) 2 0 (vouch str8Ch a)), .string (tokS str8Tks 9 k), .slice a208 ((pdL (cutS seed 50) e1 e2 e3 i).length + 1) c208], .cells b12 (Tm.c (pdTm (cutS seed 50) u)), .cells bk.2 [.int .i64 ((i + 1 + 1 : Nat) : Int), .int .i64 ((2 ^ 2 : Nat) : Int)]]) (.cons (by first | exact del0 | exact del1 | exact del2 | exact del3 | exact del4) (.cons (by first | exact del0 | exact del1 | exact del2 | exact del3 | exact del4) (.cons (by first | exact del0 | exact del1 | exact del2 | exact del3 | exact del4) (.cons (by first | exact del0 | exact del1 | exact del2 | exact del3 | exact del4) .nil))))).cast (by rw [pd_yes hI]; simp)⟩
                  )
                )
              ·first
               | (exfalso; omega)
               | (
                refine jz ?_
                refine jy (y_neq_bool rfl rfl) ?_
                refine jl_as (u := .bool true) rfl ?_
                refine jy (y_pick_false rfl rfl) ?_
                refine jz ?_
                refine jsk ?_
                refine jsk ?_
                refine jsk ?_
                refine jsk ?_
                refine jsk ?_
                refine jsk ?_
                refine jsk ?_
                refine jsk ?_
                refine jy (y_pick_true rfl rfl) ?_
                refine jz ?_
                refine jsk ?_
                refine jsk ?_
                refine jsk ?_
                refine jsk ?_
                refine jsk ?_
                refine jsk ?_
                refine jy (y_pick_true rfl rfl) ?_
                refine jnt ?_
                refine jc_true rfl ?_
                refine jsr ?_
                refine jz ?_
                refine jnt ?_
                refine jc_ret ?_
                refine jq_then_ret ?_
                refine jq_block_ret ?_
                refine jq_then_ret ?_
                refine jq_then_ret ?_
                refine jq_block_ret ?_
                refine jq_then_ret ?_
                refine jq_ret1 rfl rfl ?_
                exact fun _ hw => ⟨rfl, (hallc.next hw (by repeat first | exact ⟨_, mem0, rfl⟩ | exact ⟨_, mem1, rfl⟩ | exact ⟨_, mem2, rfl⟩ | refine List.forall_mem_cons.2 ⟨?_, ?_⟩ | exact fun _ h => absurd h List.not_mem_nil)).ch⟩
                )
              )
            )
         )
       ·first
        | (exfalso; omega)
        | (
         refine jnt ?_
         refine jc_false rfl ?_
         refine jc_exit ?_
         refine jq_then_exit ?_
         refine jq_then_exit ?_
         refine jq_hit ?_
         refine jq_then ?_
         refine jc_seq ?_
         have hie : i = 2 := by omega
         subst hie
         have hps := pd_sum (seed := (cutS seed 50)) (b := e1) (d := e3) h2.1 2
         obtain ⟨l, hl⟩ : ∃ l, pdL (cutS seed 50) e1 e2 e3 2 = l := ⟨_, rfl⟩
         have hlf : ∀ x ∈ l, x.Fit := by rw [← hl]; exact pdL_fit hin
         have hll : l.length ≤ 2 := by rw [← hl]; exact pd_len 2
         have hfa : fits .u64 a := by simp only [fits]; omega
         rw [hl] at hps
         obtain ⟨f, hf⟩ : ∃ f, sumF l = f := ⟨_, rfl⟩
         rw [hf] at hps
         have hW0 : WorthIs (pdTm (cutS seed 50) u) (pdP (cutS seed 50) a (tokS str8Tks 9 k) l) (a + n * u + f) := .of (pd_worth (t := (pdTm (cutS seed 50) u)) (p := (pdP (cutS seed 50) a (tokS str8Tks 9 k) l)) (a := a) (u := u) (l := l) (n := 2) (b := e1) (c := e2) (d := e3) (seed := (cutS seed 50)) rfl hin (by omega) hl.symm (by decide) rfl (.inr (tokS_size _ _ _)) (pd_tok (pdP (cutS seed 50) a (tokS str8Tks 9 k) l) (by omega) (by omega) rfl).1 ⟨(pd_tok (pdP (cutS seed 50) a (tokS str8Tks 9 k) l) (by omega) (by omega) rfl).2.2.1, (pd_tok (pdP (cutS seed 50) a (tokS str8Tks 9 k) l) (by omega) (by omega) rfl).2.2.2⟩) (by rw [(pd_tok (pdP (cutS seed 50) a (tokS str8Tks 9 k) l) (by omega) (by omega) rfl).2.1, hn, hf])
         have hW1 : WorthIs (pdTm (cutS seed 50) u) (pdP (cutS seed 50) a ⟨#[]⟩ l) (a + f) := .of (pd_worth (t := (pdTm (cutS seed 50) u)) (p := (pdP (cutS seed 50) a ⟨#[]⟩ l)) (a := a) (u := u) (l := l) (n := 2) (b := e1) (c := e2) (d := e3) (seed := (cutS seed 50)) rfl hin (by omega) hl.symm (by decide) rfl (.inl rfl) (pd_bare (pdP (cutS seed 50) a ⟨#[]⟩ l) rfl).1 (by rw [(pd_bare (pdP (cutS seed 50) a ⟨#[]⟩ l) rfl).2]; decide)) (by rw [(pd_bare (pdP (cutS seed 50) a ⟨#[]⟩ l) rfl).2, hf]; omega)
         have hW2 : WorthIs (pdTm (cutS seed 50) u) (pdP (cutS seed 50) a ⟨#[]⟩ []) a := .of (pd_worth (t := (pdTm (cutS seed 50) u)) (p := (pdP (cutS seed 50) a ⟨#[]⟩ [])) (a := a) (u := u) (l := []) (n := 0) (b := e1) (c := e2) (d := e3) (seed := (cutS seed 50)) rfl hin (by omega) rfl (by decide) rfl (.inl rfl) (pd_bare (pdP (cutS seed 50) a ⟨#[]⟩ []) rfl).1 (by rw [(pd_bare (pdP (cutS seed 50) a ⟨#[]⟩ []) rfl).2]; decide)) (by rw [(pd_bare (pdP (cutS seed 50) a ⟨#[]⟩ []) rfl).2, sumF_nil]; omega)
         refine jc_weaken (F := [(5, .pointer (some ⟨b5, 0, none⟩)), (7, .pointer (some ⟨bk.1, 0, none⟩)), (9, .pointer (some ⟨bc, 0, none⟩)), (11, .string str8Ch), (12, .pointer (some ⟨b12, 0, none⟩)), (13, .int .u64 a), (15, .int .i64 0), (16, .int .i64 ((k : Nat) : Int)), (17, .string (tokS str8Tks 9 k)), (18, .int .i64 0), (19, .pointer (some ⟨b19, 0, none⟩)), (20, .int .u64 f)]) ⟨rfl, rfl, rfl, rfl, rfl, rfl, rfl, rfl, rfl, rfl, rfl, lk_int rfl (by rw [hl, hf]), trivial⟩ ?_
         refine jc_world (fun _ h => h.cast (H' := [.row ad (l).length cu 45 10 ((l).flatMap Wn.c), .cells b19 [.int .u64 a, .string (signK (cutS seed 50) 2 0 (vouch str8Ch a)), .string (tokS str8Tks 9 k), .slice ad (l.length) cu], .cells b12 (Tm.c (pdTm (cutS seed 50) u)), .cells bk.2 [.int .i64 ((2 + 1 : Nat) : Int), .int .i64 ((2 ^ 2 : Nat) : Int)]]) (by rw [hl])) ?_
         refine jc_region ?_
         refine jz ?_
         refine jpc (goes_func rfl) (fun w1 hw1 => anchor_any bc str8Tks 9 w1 (hoc.keep hw1).at) ?_
         refine jz ?_
         refine jpc (goes_func rfl) (fun w1 hw1 => cq (count_any (tokS str8Tks 9 0) (tokS str8Tks 9 k) 9 w1 (by simp only [fits]; decide)) (u := .tuple #[.int .i64 n, .int .i64 0]) (by rw [hn, hct.1])) ?_
         refine jz ?_
         refine jz ?_
         refine jz ?_
         refine jz ?_
         refine jz ?_
         refine jnt ?_
         refine jsr ?_
         refine jz ?_
         refine jz ?_
         refine jpc (goes_func rfl) (fun w1 hw1 => cq (worth_any (pdTm (cutS seed 50) u) (pdP (cutS seed 50) a (tokS str8Tks 9 k) l) ad cu w1 (ElAt.of_row (l := l) (c := Wn.c) (fun _ => rfl) rfl (hw1.get mem0)) hTf ⟨hfa, hlf⟩ (by show (l : List Wn).length ≤ 1000; first | decide | omega) (by show str8Ch.size ≤ _; decide)) (u := .tuple #[.int .u64 (a + n * u + f), .int .i64 0]) (by rw [hW0.e, hW0.v])) ?_
         refine jz ?_
         refine jz ?_
         refine jz ?_
         refine jz ?_
         refine jz ?_
         refine jnt ?_
         refine jc_seq ?_
         refine jsr ?_
         refine jz ?_
         refine jy (y_neq rfl rfl) ?_
         refine jl_prop (fun h224 => ?_) (fun h224 => ?_)
         ·first
          | (exfalso; omega)
          | (
           refine jz ?_
           refine jsk ?_
           refine jsk ?_
           refine jy (y_pick_true rfl rfl) ?_
           refine jz ?_
           refine jsk ?_
           refine jsk ?_
           refine jy (y_pick_true rfl rfl) ?_
           refine jz ?_
           refine jsk ?_
           refine jsk ?_
           refine jy (y_pick_true rfl rfl) ?_
           refine jz ?_
           refine jsk ?_
           refine jsk ?_
           refine jsk ?_
           refine jy (y_pick_true rfl rfl) ?_
           refine jz ?_
           refine jsk ?_
           refine jsk ?_
           refine jsk ?_
           refine jsk ?_
           refine jsk ?_
           refine jsk ?_
           refine jsk ?_
           refine jsk ?_
           refine jsk ?_
           refine jsk ?_
           refine jsk ?_
           refine jy (y_pick_true rfl rfl) ?_
           refine jnt ?_
           refine jc_true rfl ?_
           refine jsr ?_
           refine jz ?_
           refine jnt ?_
           refine jc_ret ?_
           refine jq_then_ret ?_
           refine jq_ret1 rfl rfl ?_
           exact fun _ hw => ⟨rfl, (hallc.next hw (by repeat first | exact ⟨_, mem0, rfl⟩ | exact ⟨_, mem1, rfl⟩ | exact ⟨_, mem2, rfl⟩ | refine List.forall_mem_cons.2 ⟨?_, ?_⟩ | exact fun _ h => absurd h List.not_mem_nil)).ch⟩
           )
         ·first
          | (exfalso; omega)
          | (
           refine jz ?_
           refine jz ?_
           refine jy (y_neq rfl rfl) ?_
           refine jl_prop (fun h227 => ?_) (fun h227 => ?_)
           ·first
            | (exfalso; omega)
            | (
             refine jy (y_pick_false rfl rfl) ?_
             refine jz ?_
             refine jsk ?_
             refine jsk ?_
             refine jy (y_pick_true rfl rfl) ?_
             refine jz ?_
             refine jsk ?_
             refine jsk ?_
             refine jy (y_pick_true rfl rfl) ?_
             refine jz ?_
             refine jsk ?_
             refine jsk ?_
             refine jsk ?_
             refine jy (y_pick_true rfl rfl) ?_
             refine jz ?_
             refine jsk ?_
             refine jsk ?_
             refine jsk ?_
             refine jsk ?_
             refine jsk ?_
             refine jsk ?_
             refine jsk ?_
             refine jsk ?_
             refine jsk ?_
             refine jsk ?_
             refine jsk ?_
             refine jy (y_pick_true rfl rfl) ?_
             refine jnt ?_
             refine jc_true rfl ?_
             refine jsr ?_
             refine jz ?_
             refine jnt ?_
             refine jc_ret ?_
             refine jq_then_ret ?_
             refine jq_ret1 rfl rfl ?_
             exact fun _ hw => ⟨rfl, (hallc.next hw (by repeat first | exact ⟨_, mem0, rfl⟩ | exact ⟨_, mem1, rfl⟩ | exact ⟨_, mem2, rfl⟩ | refine List.forall_mem_cons.2 ⟨?_, ?_⟩ | exact fun _ h => absurd h List.not_mem_nil)).ch⟩
             )
           ·first
            | (exfalso; omega)
            | (
             refine jy (y_pick_false rfl rfl) ?_
             refine jz ?_
             refine jz ?_
             refine jy (y_neq rfl rfl) ?_
             refine jl_prop (fun h231 => ?_) (fun h231 => ?_)
             ·first
              | (exfalso; omega)
              | (
               refine jy (y_pick_false rfl rfl) ?_
               refine jz ?_
               refine jsk ?_
               refine jsk ?_
               refine jy (y_pick_true rfl rfl) ?_
               refine jz ?_
               refine jsk ?_
               refine jsk ?_
               refine jsk ?_
               refine jy (y_pick_true rfl rfl) ?_
               refine jz ?_
               refine jsk ?_
               refine jsk ?_
               refine jsk ?_
               refine jsk ?_
               refine jsk ?_
               refine jsk ?_
               refine jsk ?_
               refine jsk ?_
               refine jsk ?_
               refine jsk ?_
               refine jsk ?_
               refine jy (y_pick_true rfl rfl) ?_
               refine jnt ?_
               refine jc_true rfl ?_
               refine jsr ?_
               refine jz ?_
               refine jnt ?_
               refine jc_ret ?_
               refine jq_then_ret ?_
               refine jq_ret1 rfl rfl ?_
               exact fun _ hw => ⟨rfl, (hallc.next hw (by repeat first | exact ⟨_, mem0, rfl⟩ | exact ⟨_, mem1, rfl⟩ | exact ⟨_, mem2, rfl⟩ | refine List.forall_mem_cons.2 ⟨?_, ?_⟩ | exact fun _ h => absurd h List.not_mem_nil)).ch⟩
               )
             ·first
              | (exfalso; omega)
              | (
               refine jy (y_pick_false rfl rfl) ?_
               refine jz ?_
               refine jz ?_
               refine jy (y_neq rfl rfl) ?_
               refine jl_prop (fun h235 => ?_) (fun h235 => ?_)
               ·first
                | (exfalso; omega)
                | (
                 refine jy (y_pick_false rfl rfl) ?_
                 refine jz ?_
                 refine jsk ?_
                 refine jsk ?_
                 refine jsk ?_
                 refine jy (y_pick_true rfl rfl) ?_
                 refine jz ?_
                 refine jsk ?_
                 refine jsk ?_
                 refine jsk ?_
                 refine jsk ?_
                 refine jsk ?_
                 refine jsk ?_
                 refine jsk ?_
                 refine jsk ?_
                 refine jsk ?_
                 refine jsk ?_
                 refine jsk ?_
                 refine jy (y_pick_true rfl rfl) ?_
                 refine jnt ?_
                 refine jc_true rfl ?_
                 refine jsr ?_
                 refine jz ?_
                 refine jnt ?_
                 refine jc_ret ?_
                 refine jq_then_ret ?_
                 refine jq_ret1 rfl rfl ?_
                 exact fun _ hw => ⟨rfl, (hallc.next hw (by repeat first | exact ⟨_, mem0, rfl⟩ | exact ⟨_, mem1, rfl⟩ | exact ⟨_, mem2, rfl⟩ | refine List.forall_mem_cons.2 ⟨?_, ?_⟩ | exact fun _ h => absurd h List.not_mem_nil)).ch⟩
                 )
               ·first
                | (exfalso; omega)
                | (
                 refine jy (y_pick_false rfl rfl) ?_
                 refine jz ?_
                 refine jz ?_
                 refine jz ?_
                 refine jy (y_gtr rfl rfl) ?_
                 refine jl_prop (fun h240 => ?_) (fun h240 => ?_)
                 ·first
                  | (exfalso; omega)
                  | (
                   refine jy (y_pick_false rfl rfl) ?_
                   refine jz ?_
                   refine jsk ?_
                   refine jsk ?_
                   refine jsk ?_
                   refine jsk ?_
                   refine jsk ?_
                   refine jsk ?_
                   refine jsk ?_
                   refine jsk ?_
                   refine jsk ?_
                   refine jsk ?_
                   refine jsk ?_
                   refine jy (y_pick_true rfl rfl) ?_
                   refine jnt ?_
                   refine jc_true rfl ?_
                   refine jsr ?_
                   refine jz ?_
                   refine jnt ?_
                   refine jc_ret ?_
                   refine jq_then_ret ?_
                   refine jq_ret1 rfl rfl ?_
                   exact fun _ hw => ⟨rfl, (hallc.next hw (by repeat first | exact ⟨_, mem0, rfl⟩ | exact ⟨_, mem1, rfl⟩ | exact ⟨_, mem2, rfl⟩ | refine List.forall_mem_cons.2 ⟨?_, ?_⟩ | exact fun _ h => absurd h List.not_mem_nil)).ch⟩
                   )
                 ·first
                  | (exfalso; omega)
                  | (
                   refine jy (y_pick_false rfl rfl) ?_
                   refine jz ?_
                   refine jz ?_
                   refine jz ?_
                   refine jz ?_
                   first | refine jy (y_conv_fits rfl (by simp only [fits]; omega)) ?_ | refine jy (y_conv_u64 rfl) ?_
                   refine jz ?_
                   refine jz ?_
                   refine jl_as (u := .int .u64 u) (congrArg (Value.int .u64) (rfl)) ?_
                   refine jy (y_mul_u64 rfl rfl) ?_
                   refine jl_as (u := .int .u64 (n * u)) (congrArg (Value.int .u64) (by omega)) ?_
                   refine jy (y_add_u64 rfl rfl) ?_
                   refine jl_as (u := .int .u64 (a + n * u)) (congrArg (Value.int .u64) (by omega)) ?_
                   refine jz ?_
                   refine jy (y_add_u64 rfl rfl) ?_
                   refine jl_as (u := .int .u64 (a + n * u + f)) (congrArg (Value.int .u64) (by omega)) ?_
                   refine jy (y_neq rfl rfl) ?_
                   refine jl_prop (fun h253 => ?_) (fun h253 => ?_)
                   ·first
                    | (exfalso; omega)
                    | (
                     refine jy (y_pick_false rfl rfl) ?_
                     refine jnt ?_
                     refine jc_true rfl ?_
                     refine jsr ?_
                     refine jz ?_
                     refine jnt ?_
                     refine jc_ret ?_
                     refine jq_then_ret ?_
                     refine jq_ret1 rfl rfl ?_
                     exact fun _ hw => ⟨rfl, (hallc.next hw (by repeat first | exact ⟨_, mem0, rfl⟩ | exact ⟨_, mem1, rfl⟩ | exact ⟨_, mem2, rfl⟩ | refine List.forall_mem_cons.2 ⟨?_, ?_⟩ | exact fun _ h => absurd h List.not_mem_nil)).ch⟩
                     )
                   ·first
                    | (exfalso; omega)
                    | (
                     refine jy (y_pick_false rfl rfl) ?_
                     refine jnt ?_
                     refine jc_false rfl ?_
                     refine jc_skip ?_
                     refine jq_then ?_
                     refine jsr ?_
                     refine jz ?_
                     refine jst ?_
                     refine jnt ?_
                     refine jsr ?_
                     refine jz ?_
                     refine jz ?_
                     refine jpc (goes_func rfl) (fun w1 hw1 => cq (worth_any (pdTm (cutS seed 50) u) (pdP (cutS seed 50) a ⟨#[]⟩ l) ad cu w1 (ElAt.of_row (l := l) (c := Wn.c) (fun _ => rfl) rfl (hw1.get mem0)) hTf ⟨hfa, hlf⟩ (by show (l : List Wn).length ≤ 1000; first | decide | omega) (by show str8Ch.size ≤ _; decide)) (u := .tuple #[.int .u64 (a + f), .int .i64 0]) (by rw [hW1.e, hW1.v])) ?_
                     refine jz ?_
                     refine jz ?_
                     refine jz ?_
                     refine jz ?_
                     refine jz ?_
                     refine jnt ?_
                     refine jsr ?_
                     refine jz ?_
                     refine jst ?_
                     refine jnt ?_
                     refine jsr ?_
                     refine jz ?_
                     refine jz ?_
                     refine jpc (goes_func rfl) (fun w1 hw1 => cq (worth_any (pdTm (cutS seed 50) u) (pdP (cutS seed 50) a ⟨#[]⟩ []) none 0 w1 el_nil hTf ⟨hfa, (fun x hx => by cases hx)⟩ (by show ([] : List Wn).length ≤ 1000; first | decide | omega) (by show str8Ch.size ≤ _; decide)) (u := .tuple #[.int .u64 a, .int .i64 0]) (by rw [hW2.e, hW2.v])) ?_
                     refine jz ?_
                     refine jz ?_
                     refine jz ?_
                     refine jz ?_
                     refine jz ?_
                     refine jnt ?_
                     refine jsr ?_
                     refine jz ?_
                     refine jy (y_eql rfl rfl) ?_
                     refine jl_prop (fun h270 => ?_) (fun h270 => ?_)
                     ·first
                      | (exfalso; omega)
                      | (
                       refine jz ?_
                       refine jz ?_
                       refine jy (y_eql rfl rfl) ?_
                       refine jl_prop (fun h273 => ?_) (fun h273 => ?_)
                       ·first
                        | (exfalso; omega)
                        | (
                         refine jy (y_pick_true rfl rfl) ?_
                         refine jz ?_
                         refine jz ?_
                         refine jz ?_
                         refine jz ?_
                         refine jy (y_add_u64 rfl rfl) ?_
                         refine jy (y_eql rfl rfl) ?_
                         refine jl_prop (fun h280 => ?_) (fun h280 => ?_)
                         ·first
                          | (exfalso; omega)
                          | (
                           refine jy (y_pick_true rfl rfl) ?_
                           refine jz ?_
                           refine jz ?_
                           refine jz ?_
                           refine jy (y_eql rfl rfl) ?_
                           refine jl_prop (fun h285 => ?_) (fun h285 => ?_)
                           ·first
                            | (exfalso; omega)
                            | (
                             refine jy (y_pick_true rfl rfl) ?_
                             refine jz ?_
                             refine jpc (goes_func rfl) (fun w1 hw1 => fixed8_any w1) ?_
                             refine jy (y_pick_true rfl rfl) ?_
                             refine jz ?_
                             refine jnt ?_
                             refine jc_ret ?_
                             refine jq_ret1 rfl rfl ?_
                             exact fun _ hw => ⟨rfl, (hallc.next hw (by repeat first | exact ⟨_, mem0, rfl⟩ | exact ⟨_, mem1, rfl⟩ | exact ⟨_, mem2, rfl⟩ | refine List.forall_mem_cons.2 ⟨?_, ?_⟩ | exact fun _ h => absurd h List.not_mem_nil)).ch⟩
                             )
                           ·first
                            | (exfalso; omega)
                            | (
                             refine jy (y_pick_true rfl rfl) ?_
                             refine jz ?_
                             refine jsk ?_
                             refine jy (y_pick_false rfl rfl) ?_
                             refine jz ?_
                             refine jnt ?_
                             refine jc_ret ?_
                             refine jq_ret1 rfl rfl ?_
                             exact fun _ hw => ⟨rfl, (hallc.next hw (by repeat first | exact ⟨_, mem0, rfl⟩ | exact ⟨_, mem1, rfl⟩ | exact ⟨_, mem2, rfl⟩ | refine List.forall_mem_cons.2 ⟨?_, ?_⟩ | exact fun _ h => absurd h List.not_mem_nil)).ch⟩
                             )
                           )
                         ·first
                          | (exfalso; omega)
                          | (
                           refine jy (y_pick_true rfl rfl) ?_
                           refine jz ?_
                           refine jsk ?_
                           refine jsk ?_
                           refine jsk ?_
                           refine jy (y_pick_false rfl rfl) ?_
                           refine jz ?_
                           refine jsk ?_
                           refine jy (y_pick_false rfl rfl) ?_
                           refine jz ?_
                           refine jnt ?_
                           refine jc_ret ?_
                           refine jq_ret1 rfl rfl ?_
                           exact fun _ hw => ⟨rfl, (hallc.next hw (by repeat first | exact ⟨_, mem0, rfl⟩ | exact ⟨_, mem1, rfl⟩ | exact ⟨_, mem2, rfl⟩ | refine List.forall_mem_cons.2 ⟨?_, ?_⟩ | exact fun _ h => absurd h List.not_mem_nil)).ch⟩
                           )
                         )
                       ·first
                        | (exfalso; omega)
                        | (
                         refine jy (y_pick_true rfl rfl) ?_
                         refine jz ?_
                         refine jsk ?_
                         refine jsk ?_
                         refine jsk ?_
                         refine jsk ?_
                         refine jsk ?_
                         refine jy (y_pick_false rfl rfl) ?_
                         refine jz ?_
                         refine jsk ?_
                         refine jsk ?_
                         refine jsk ?_
                         refine jy (y_pick_false rfl rfl) ?_
                         refine jz ?_
                         refine jsk ?_
                         refine jy (y_pick_false rfl rfl) ?_
                         refine jz ?_
                         refine jnt ?_
                         refine jc_ret ?_
                         refine jq_ret1 rfl rfl ?_
                         exact fun _ hw => ⟨rfl, (hallc.next hw (by repeat first | exact ⟨_, mem0, rfl⟩ | exact ⟨_, mem1, rfl⟩ | exact ⟨_, mem2, rfl⟩ | refine List.forall_mem_cons.2 ⟨?_, ?_⟩ | exact fun _ h => absurd h List.not_mem_nil)).ch⟩
                         )
                       )
                     ·first
                      | (exfalso; omega)
                      | (
                       refine jz ?_
                       refine jsk ?_
                       refine jsk ?_
                       refine jy (y_pick_false rfl rfl) ?_
                       refine jz ?_
                       refine jsk ?_
                       refine jsk ?_
                       refine jsk ?_
                       refine jsk ?_
                       refine jsk ?_
                       refine jy (y_pick_false rfl rfl) ?_
                       refine jz ?_
                       refine jsk ?_
                       refine jsk ?_
                       refine jsk ?_
                       refine jy (y_pick_false rfl rfl) ?_
                       refine jz ?_
                       refine jsk ?_
                       refine jy (y_pick_false rfl rfl) ?_
                       refine jz ?_
                       refine jnt ?_
                       refine jc_ret ?_
                       refine jq_ret1 rfl rfl ?_
                       exact fun _ hw => ⟨rfl, (hallc.next hw (by repeat first | exact ⟨_, mem0, rfl⟩ | exact ⟨_, mem1, rfl⟩ | exact ⟨_, mem2, rfl⟩ | refine List.forall_mem_cons.2 ⟨?_, ?_⟩ | exact fun _ h => absurd h List.not_mem_nil)).ch⟩
                       )
                     )
                   )
                 )
               )
             )
           )
         )
     )
   )

end Go.Proofs.Ytddpoigfliaklaa