/- The walks of package coin, part five: what is read. Written by program (walk.py) out of a table of contracts and invariants. -/
import Derived.Test.YtomhcibbalhgkaaGreatCd
namespace Go.Proofs.YtomhcibbalhgkaaGreat
open Go.RowKit
set_option maxRecDepth 100000
set_option maxHeartbeats 2000000
set_option linter.unusedVariables false
set_option linter.unusedSimpArgs false
theorem rdOu_1 {S : ByteArray} {x : RS} (h : byV S x = 1) : rdOu S x = (⟨byV S x, nuV S (byS S x), haV S (nuS S (byS S x)), ⟨#[]⟩, 0, ⟨#[]⟩, 0, 0, ⟨#[]⟩⟩, haS S (nuS S (byS S x))) := by
  simp only [rdOu]
  rw [if_pos h]
theorem rdOu_3 {S : ByteArray} {x : RS} (h : byV S x = 3) : rdOu S x = (⟨byV S x, nuV S (byS S x), haV S (nuS S (byS S x)), haV S (haS S (nuS S (byS S x))), smal (nuV S (haS S (haS S (nuS S (byS S x))))), ⟨#[]⟩, 0, 0, haV S (nuS S (haS S (haS S (nuS S (byS S x)))))⟩, haS S (nuS S (haS S (haS S (nuS S (byS S x)))))) := by
  simp only [rdOu]
  rw [if_neg (by omega), if_pos h]
theorem rdOu_2 {S : ByteArray} {x : RS} (h : byV S x = 2) : rdOu S x = (⟨byV S x, nuV S (byS S x), haV S (nuS S (byS S x)), haV S (haS S (nuS S (byS S x))), smal (nuV S (haS S (haS S (nuS S (byS S x))))), haV S (nuS S (haS S (haS S (nuS S (byS S x))))), nuV S (haS S (nuS S (haS S (haS S (nuS S (byS S x)))))), smal (nuV S (nuS S (haS S (nuS S (haS S (haS S (nuS S (byS S x)))))))), ⟨#[]⟩⟩, nuS S (nuS S (haS S (nuS S (haS S (haS S (nuS S (byS S x)))))))) := by
  simp only [rdOu]
  rw [if_neg (by omega), if_neg (by omega), if_pos h]
theorem rdOu_0 {S : ByteArray} {x : RS} (h : ¬ byV S x = 1) (h3 : ¬ byV S x = 3) (h2 : ¬ byV S x = 2) : rdOu S x = (⟨byV S x, nuV S (byS S x), haV S (nuS S (byS S x)), ⟨#[]⟩, 0, ⟨#[]⟩, 0, 0, ⟨#[]⟩⟩, flS (haS S (nuS S (byS S x))) 4) := by
  simp only [rdOu]
  rw [if_neg h, if_neg h3, if_neg h2]

theorem csmall_any (n : Int) (w : World) (hn : fits .u64 n) :
  Calls Tryz.prog 125 #[.int .u64 n] w fun e w' => e = .returned (.int .i64 (smal n)) ∧ Ch [] w w' := by
 refine calls_of (n := 13) (E := [(0, .int .u64 n)]) (W := Hp w [] []) Tryz.func125 rfl rfl (Nat.le_of_ble_eq_true rfl) rfl (Hp.nil _ _) ?_
 refine jsr ?_
 refine jz ?_
 refine jnt ?_
 refine jsr ?_
 refine jz ?_
 refine jpc (goes_func rfl) (fun w1 hw1 => int_any n w1 hn) ?_
 refine jz ?_
 refine jz ?_
 refine jz ?_
 refine jz ?_
 refine jz ?_
 refine jnt ?_
 refine jc_seq ?_
 refine jsr ?_
 refine jz ?_
 refine jy (y_neq rfl rfl) ?_
 refine jl_prop (fun h11 => ?_) (fun h11 => ?_)
 ·first
  | (exfalso; omega)
  | (
   refine jnt ?_
   refine jc_true rfl ?_
   refine jsr ?_
   refine jz ?_
   refine jnt ?_
   refine jc_ret ?_
   refine jq_then_ret ?_
   refine jq_ret1 rfl rfl ?_
   exact fun _ hw => ⟨by have : 9223372036854775807 < n := (by split at * <;> omega); unfold smal; rw [if_pos this], hw.ch⟩
   )
 ·first
  | (exfalso; omega)
  | (
   refine jnt ?_
   refine jc_false rfl ?_
   refine jc_skip ?_
   refine jq_then ?_
   refine jsr ?_
   refine jz ?_
   refine jz ?_
   refine jnt ?_
   refine jc_ret ?_
   refine jq_ret1 rfl rfl ?_
   exact fun _ hw => ⟨by have : ¬ 9223372036854775807 < n := (by intro h; split at * <;> omega); unfold smal; simp only [if_neg this]; rfl, hw.ch⟩
   )

theorem cgetou_any (b : Nat) (S : ByteArray) (x : RS) (w : World) (hS : S.size ≤ 1000000000) (hok : okR S x) (hA : HA.ok w (.cells b [.string (S.extract (x).1 S.size), .int .i64 (x).2])) :
  Calls Tryz.prog 118 #[.pointer (some ⟨b, 0, none⟩)] w fun e w' => e = .returned (.agg (Oup.c (rdOu S x).1).toArray) ∧ Upd w w' (.cells b [.string (S.extract (x).1 S.size), .int .i64 (x).2]) (.cells b [.string (S.extract ((rdOu S x).2).1 S.size), .int .i64 ((rdOu S x).2).2]) := by
 refine calls_of (n := 50) (E := [(0, .pointer (some ⟨b, 0, none⟩))]) (W := Hp w [b] [.cells b [.string (S.extract (x).1 S.size), .int .i64 (x).2]]) Tryz.func118 rfl rfl (Nat.le_of_ble_eq_true rfl) rfl (Hp.start rfl hA) ?_
 refine jsr ?_
 refine jl_m rfl (by decide) rfl (m_alloc) (fun b2 => ?_)
 refine jnt ?_
 refine jsr ?_
 refine jz ?_
 refine juc (goes_func rfl) (fun w1 hw1 => cbyte_any b S (x) w1 hS hok hw1) ?_
 refine jz ?_
 refine juc (goes_func rfl) (fun w1 hw1 => cnum_any b S (byS S (x)) w1 hS (byS_ok hok) hw1) ?_
 refine jy (y_build (Built.cell rfl rfl rfl (by repeat constructor) (Built.cell rfl rfl rfl (by repeat constructor) Built.nil))) ?_
 refine jl_m rfl (by decide) rfl (m_alloc) (fun b3 => ?_)
 refine jst ?_
 refine jnt ?_
 refine jsr ?_
 refine jz ?_
 refine juc (goes_func rfl) (fun w1 hw1 => chash_any b S (nuS S (byS S (x))) w1 hS (nuS_ok (byS_ok hok)) hw1) ?_
 refine jz ?_
 refine jst ?_
 refine jnt ?_
 refine jc_seq ?_
 refine jsr ?_
 refine jz ?_
 refine jz ?_
 refine jnt ?_
 refine jc_block ?_
 refine jsr ?_
 refine jy (y_eql rfl rfl) ?_
 refine jl_prop (fun h17 => ?_) (fun h17 => ?_)
 ·first
  | (exfalso; omega)
  | (
   refine jz ?_
   refine jnt ?_
   refine jc_true rfl ?_
   refine jc_skip ?_
   refine jq_block ?_
   refine jq_then ?_
   refine jsr ?_
   refine jz ?_
   refine jst ?_
   refine jnt ?_
   refine jc_ret ?_
   refine jq_res (.inl rfl) rfl (.cell rfl (by first | exact ld_agg (by first | exact mem0 | exact mem1 | exact mem2 | exact mem3 | exact mem4 | exact mem5) (by repeat constructor) | exact ld_agg (by first | exact mem0 | exact mem1 | exact mem2 | exact mem3 | exact mem4 | exact mem5) (by assumption)) .nil) ?_
   first | exact fun w' hw => ⟨by rw [rdOu_1 (by omega)]; rfl, by rw [rdOu_1 (by omega)]; exact (hw.part (.cons (by first | exact del0 | exact del1 | exact del2) .nil)).updd rfl⟩ | exact fun w' hw => ⟨by rw [rdOu_3 (by omega)]; rfl, by rw [rdOu_3 (by omega)]; exact (hw.part (.cons (by first | exact del0 | exact del1 | exact del2) .nil)).updd rfl⟩ | exact fun w' hw => ⟨by rw [rdOu_2 (by omega)]; rfl, by rw [rdOu_2 (by omega)]; exact (hw.part (.cons (by first | exact del0 | exact del1 | exact del2) .nil)).updd rfl⟩ | exact fun w' hw => ⟨by rw [rdOu_0 (by omega) (by omega) (by omega)]; rfl, by rw [rdOu_0 (by omega) (by omega) (by omega)]; exact (hw.part (.cons (by first | exact del0 | exact del1 | exact del2) .nil)).updd rfl⟩
   )
 ·first
  | (exfalso; omega)
  | (
   refine jz ?_
   refine jnt ?_
   refine jc_false rfl ?_
   refine jsr ?_
   refine jy (y_eql rfl rfl) ?_
   refine jl_prop (fun h19 => ?_) (fun h19 => ?_)
   ·first
    | (exfalso; omega)
    | (
     refine jz ?_
     refine jnt ?_
     refine jc_true rfl ?_
     refine jsr ?_
     refine jz ?_
     refine juc (goes_func rfl) (fun w1 hw1 => chash_any b S (haS S (nuS S (byS S (x)))) w1 hS (haS_ok (nuS_ok (byS_ok hok))) hw1) ?_
     refine jz ?_
     refine juc (goes_func rfl) (fun w1 hw1 => cnum_any b S (haS S (haS S (nuS S (byS S (x))))) w1 hS (haS_ok (haS_ok (nuS_ok (byS_ok hok)))) hw1) ?_
     refine jpc (goes_func rfl) (fun w1 hw1 => csmall_any (nuV S (haS S (haS S (nuS S (byS S (x)))))) w1 (nuV_range _ _)) ?_
     refine jz ?_
     refine jst ?_
     refine jz ?_
     refine jst ?_
     refine jnt ?_
     refine jc_region ?_
     refine jz ?_
     refine juc (goes_func rfl) (fun w1 hw1 => chash_any b S (nuS S (haS S (haS S (nuS S (byS S (x)))))) w1 hS (nuS_ok (haS_ok (haS_ok (nuS_ok (byS_ok hok))))) hw1) ?_
     refine jz ?_
     refine jst ?_
     refine jl_nil ?_
     refine jq_block ?_
     refine jq_then ?_
     refine jsr ?_
     refine jz ?_
     refine jst ?_
     refine jnt ?_
     refine jc_ret ?_
     refine jq_res (.inl rfl) rfl (.cell rfl (by first | exact ld_agg (by first | exact mem0 | exact mem1 | exact mem2 | exact mem3 | exact mem4 | exact mem5) (by repeat constructor) | exact ld_agg (by first | exact mem0 | exact mem1 | exact mem2 | exact mem3 | exact mem4 | exact mem5) (by assumption)) .nil) ?_
     first | exact fun w' hw => ⟨by rw [rdOu_1 (by omega)]; rfl, by rw [rdOu_1 (by omega)]; exact (hw.part (.cons (by first | exact del0 | exact del1 | exact del2) .nil)).updd rfl⟩ | exact fun w' hw => ⟨by rw [rdOu_3 (by omega)]; rfl, by rw [rdOu_3 (by omega)]; exact (hw.part (.cons (by first | exact del0 | exact del1 | exact del2) .nil)).updd rfl⟩ | exact fun w' hw => ⟨by rw [rdOu_2 (by omega)]; rfl, by rw [rdOu_2 (by omega)]; exact (hw.part (.cons (by first | exact del0 | exact del1 | exact del2) .nil)).updd rfl⟩ | exact fun w' hw => ⟨by rw [rdOu_0 (by omega) (by omega) (by omega)]; rfl, by rw [rdOu_0 (by omega) (by omega) (by omega)]; exact (hw.part (.cons (by first | exact del0 | exact del1 | exact del2) .nil)).updd rfl⟩
     )
   ·first
    | (exfalso; omega)
    | (
     refine jz ?_
     refine jnt ?_
     refine jc_false rfl ?_
     refine jsr ?_
     refine jy (y_eql rfl rfl) ?_
     refine jl_prop (fun h31 => ?_) (fun h31 => ?_)
     ·first
      | (exfalso; omega)
      | (
       refine jz ?_
       refine jnt ?_
       refine jc_true rfl ?_
       refine jsr ?_
       refine jz ?_
       refine juc (goes_func rfl) (fun w1 hw1 => chash_any b S (haS S (nuS S (byS S (x)))) w1 hS (haS_ok (nuS_ok (byS_ok hok))) hw1) ?_
       refine jz ?_
       refine juc (goes_func rfl) (fun w1 hw1 => cnum_any b S (haS S (haS S (nuS S (byS S (x))))) w1 hS (haS_ok (haS_ok (nuS_ok (byS_ok hok)))) hw1) ?_
       refine jpc (goes_func rfl) (fun w1 hw1 => csmall_any (nuV S (haS S (haS S (nuS S (byS S (x)))))) w1 (nuV_range _ _)) ?_
       refine jz ?_
       refine jst ?_
       refine jz ?_
       refine jst ?_
       refine jnt ?_
       refine jsr ?_
       refine jz ?_
       refine juc (goes_func rfl) (fun w1 hw1 => chash_any b S (nuS S (haS S (haS S (nuS S (byS S (x)))))) w1 hS (nuS_ok (haS_ok (haS_ok (nuS_ok (byS_ok hok))))) hw1) ?_
       refine jz ?_
       refine juc (goes_func rfl) (fun w1 hw1 => cnum_any b S (haS S (nuS S (haS S (haS S (nuS S (byS S (x))))))) w1 hS (haS_ok (nuS_ok (haS_ok (haS_ok (nuS_ok (byS_ok hok)))))) hw1) ?_
       refine jz ?_
       refine jst ?_
       refine jz ?_
       refine jst ?_
       refine jnt ?_
       refine jc_region ?_
       refine jz ?_
       refine juc (goes_func rfl) (fun w1 hw1 => cnum_any b S (nuS S (haS S (nuS S (haS S (haS S (nuS S (byS S (x)))))))) w1 hS (nuS_ok (haS_ok (nuS_ok (haS_ok (haS_ok (nuS_ok (byS_ok hok))))))) hw1) ?_
       refine jpc (goes_func rfl) (fun w1 hw1 => csmall_any (nuV S (nuS S (haS S (nuS S (haS S (haS S (nuS S (byS S (x))))))))) w1 (nuV_range _ _)) ?_
       refine jz ?_
       refine jst ?_
       refine jl_nil ?_
       refine jq_block ?_
       refine jq_then ?_
       refine jsr ?_
       refine jz ?_
       refine jst ?_
       refine jnt ?_
       refine jc_ret ?_
       refine jq_res (.inl rfl) rfl (.cell rfl (by first | exact ld_agg (by first | exact mem0 | exact mem1 | exact mem2 | exact mem3 | exact mem4 | exact mem5) (by repeat constructor) | exact ld_agg (by first | exact mem0 | exact mem1 | exact mem2 | exact mem3 | exact mem4 | exact mem5) (by assumption)) .nil) ?_
       first | exact fun w' hw => ⟨by rw [rdOu_1 (by omega)]; rfl, by rw [rdOu_1 (by omega)]; exact (hw.part (.cons (by first | exact del0 | exact del1 | exact del2) .nil)).updd rfl⟩ | exact fun w' hw => ⟨by rw [rdOu_3 (by omega)]; rfl, by rw [rdOu_3 (by omega)]; exact (hw.part (.cons (by first | exact del0 | exact del1 | exact del2) .nil)).updd rfl⟩ | exact fun w' hw => ⟨by rw [rdOu_2 (by omega)]; rfl, by rw [rdOu_2 (by omega)]; exact (hw.part (.cons (by first | exact del0 | exact del1 | exact del2) .nil)).updd rfl⟩ | exact fun w' hw => ⟨by rw [rdOu_0 (by omega) (by omega) (by omega)]; rfl, by rw [rdOu_0 (by omega) (by omega) (by omega)]; exact (hw.part (.cons (by first | exact del0 | exact del1 | exact del2) .nil)).updd rfl⟩
       )
     ·first
      | (exfalso; omega)
      | (
       refine jz ?_
       refine jnt ?_
       refine jc_false rfl ?_
       refine jc_region ?_
       refine jz ?_
       refine juc (goes_func rfl) (fun w1 hw1 => cfail_any b _ _ 4 w1 hw1) ?_
       refine jl_nil ?_
       refine jq_block ?_
       refine jq_then ?_
       refine jsr ?_
       refine jz ?_
       refine jst ?_
       refine jnt ?_
       refine jc_ret ?_
       refine jq_res (.inl rfl) rfl (.cell rfl (by first | exact ld_agg (by first | exact mem0 | exact mem1 | exact mem2 | exact mem3 | exact mem4 | exact mem5) (by repeat constructor) | exact ld_agg (by first | exact mem0 | exact mem1 | exact mem2 | exact mem3 | exact mem4 | exact mem5) (by assumption)) .nil) ?_
       first | exact fun w' hw => ⟨by rw [rdOu_1 (by omega)]; rfl, by rw [rdOu_1 (by omega)]; exact (hw.part (.cons (by first | exact del0 | exact del1 | exact del2) .nil)).updd rfl⟩ | exact fun w' hw => ⟨by rw [rdOu_3 (by omega)]; rfl, by rw [rdOu_3 (by omega)]; exact (hw.part (.cons (by first | exact del0 | exact del1 | exact del2) .nil)).updd rfl⟩ | exact fun w' hw => ⟨by rw [rdOu_2 (by omega)]; rfl, by rw [rdOu_2 (by omega)]; exact (hw.part (.cons (by first | exact del0 | exact del1 | exact del2) .nil)).updd rfl⟩ | exact fun w' hw => ⟨by rw [rdOu_0 (by omega) (by omega) (by omega)]; rfl, by rw [rdOu_0 (by omega) (by omega) (by omega)]; exact (hw.part (.cons (by first | exact del0 | exact del1 | exact del2) .nil)).updd rfl⟩
       )
     )
   )

theorem cmany_any (b : Nat) (S : ByteArray) (x : RS) (most : Int) (w : World) (hS : S.size ≤ 1000000000) (hok : okR S x) (hA : HA.ok w (.cells b [.string (S.extract (x).1 S.size), .int .i64 (x).2])) :
  Calls Tryz.prog 117 #[.pointer (some ⟨b, 0, none⟩), .int .i64 most] w fun e w' => e = .returned (.int .i64 (manyV S x most)) ∧ Upd w w' (.cells b [.string (S.extract (x).1 S.size), .int .i64 (x).2]) (.cells b [.string (S.extract ((manyS S x most)).1 S.size), .int .i64 ((manyS S x most)).2]) := by
 refine calls_of (n := 15) (E := [(0, .pointer (some ⟨b, 0, none⟩)), (1, .int .i64 most)]) (W := Hp w [b] [.cells b [.string (S.extract (x).1 S.size), .int .i64 (x).2]]) Tryz.func117 rfl rfl (Nat.le_of_ble_eq_true rfl) rfl (Hp.start rfl hA) ?_
 refine jsr ?_
 refine jz ?_
 refine jnt ?_
 refine jsr ?_
 refine jz ?_
 refine juc (goes_func rfl) (fun w1 hw1 => cbyte_any b S x w1 hS hok hw1) ?_
 refine jz ?_
 refine jnt ?_
 refine jc_seq ?_
 refine jsr ?_
 refine jz ?_
 refine jz ?_
 refine jpc (goes_func rfl) (fun w1 hw1 => cwithin_any _ _ _ w1) ?_
 refine jl_bool (fun h10 => ?_) (fun h10 => ?_)
 ·skip
  refine jz ?_
  refine jnt ?_
  refine jc_false rfl ?_
  refine jc_skip ?_
  refine jq_then ?_
  refine jsr ?_
  refine jz ?_
  refine jz ?_
  refine jnt ?_
  refine jc_ret ?_
  refine jq_ret1 rfl rfl ?_
  exact fun w' hw => ⟨by unfold manyV; rw [if_pos (by simp_all)], by unfold manyS; rw [if_pos (by simp_all)]; exact hw.updd rfl⟩
 ·skip
  refine jz ?_
  refine jnt ?_
  refine jc_true rfl ?_
  refine jsr ?_
  refine jz ?_
  refine juc (goes_func rfl) (fun w1 hw1 => cfail_any b _ _ 4 w1 hw1) ?_
  refine jnt ?_
  refine jsr ?_
  refine jz ?_
  refine jnt ?_
  refine jc_ret ?_
  refine jq_then_ret ?_
  refine jq_ret1 rfl rfl ?_
  exact fun w' hw => ⟨by unfold manyV; rw [if_neg (by simp_all)], by unfold manyS; rw [if_neg (by simp_all)]; exact hw.updd rfl⟩

theorem sameIn_any (ad aq : Option Addr) (c d : Nat) (l m : List Inp) (w : World) (hE : ElAt w ad 4 (l.map Inp.c)) (hQ : ElAt w aq 4 (m.map Inp.c)) (hl : l.length ≤ 1000000000) (hm : m.length ≤ 1000000000) :
  Calls Tryz.prog 73 #[.slice ad l.length c, .slice aq m.length d] w fun e w' => e = .returned (.bool (decide (l = m))) ∧ Ch [] w w' := by
 refine calls_of (n := 26) (E := [(0, .slice ad l.length c), (1, .slice aq m.length d)]) (W := Hp w [] []) Tryz.func73 rfl rfl (Nat.le_of_ble_eq_true rfl) rfl (Hp.nil _ _) ?_
 refine jsr ?_
 refine jz ?_
 refine jnt ?_
 refine jc_seq ?_
 refine jsr ?_
 refine jz ?_
 refine jy (y_len_slice rfl) ?_
 refine jz ?_
 refine jy (y_len_slice rfl) ?_
 refine jy (y_neq rfl rfl) ?_
 refine jl_prop (fun h10 => ?_) (fun h10 => ?_)
 ·first
  | (exfalso; omega)
  | (
   refine jnt ?_
   refine jc_true rfl ?_
   refine jsr ?_
   refine jz ?_
   refine jnt ?_
   refine jc_ret ?_
   refine jq_then_ret ?_
   refine jq_ret1 rfl rfl ?_
   exact fun _ hw => ⟨congrArg (fun b => Ending.returned (Value.bool b)) ((decide_eq_false (len_ne (by omega))).symm), hw.ch⟩
   )
 ·first
  | (exfalso; omega)
  | (
   refine jnt ?_
   refine jc_false rfl ?_
   refine jc_skip ?_
   refine jq_then ?_
   refine jc_seq ?_
   refine jsr ?_
   refine jz ?_
   refine jy (y_len_slice rfl) ?_
   refine jz ?_
   refine jnt ?_
   refine jc_block ?_
   refine jc_loop (fun (i : Nat) => [(0, .slice ad l.length c), (1, .slice aq m.length d), (12, .int .i64 l.length), (13, .int .i64 (i : Nat))]) (fun (i : Nat) => fun w' => (i ≤ l.length ∧ l.take i = m.take i) ∧ Hp w [] [] w') (fun (i : Nat) => l.length - i) 0 ?_ ?_ ?_
   ·exact ⟨rfl, rfl, rfl, rfl, trivial⟩
   ·exact fun _ h => ⟨⟨by omega, rfl⟩, h⟩
   ·intro i
    refine jc_and (fun hi => ?_)
    refine jsr ?_
    refine jy (y_lss rfl rfl) ?_
    refine jl_prop (fun h14 => ?_) (fun h14 => ?_)
    ·first
     | (exfalso; omega)
     | (
      have hlt : i < l.length := by omega
      have hlq : i < m.length := by omega
      obtain ⟨bb, oo, ea, hold⟩ := hE.get hlt
      obtain ⟨bq, oq, eq, holq⟩ := hQ.get hlq
      subst ea
      subst eq
      generalize hxe : l[i]'hlt = x at *
      generalize hye : m[i]'hlq = y at *
      refine jnt ?_
      refine jc_seq ?_
      refine jc_true rfl ?_
      refine jc_skip ?_
      refine jq_then ?_
      refine jc_seq ?_
      refine jc_block ?_
      refine jsr ?_
      refine jz ?_
      refine jz ?_
      refine jnt ?_
      refine jc_seq ?_
      refine jc_draw (by kernel_rfl) (fun _ h => h.drew) ?_
      refine juz ?_
      refine juz ?_
      refine juy (y_indexAddr_slice (off := oo + i * 4) rfl rfl (by omega) (by omega) (by omega)) ?_
      refine juy (y_loadAgg_old rfl rfl hold (by simp)) ?_
      refine juz ?_
      refine juz ?_
      refine juy (y_indexAddr_slice (off := oq + i * 4) rfl rfl (by omega) (by omega) (by omega)) ?_
      refine juy (y_loadAgg_old rfl rfl holq (by simp)) ?_
      refine juy (y_neq_agg rfl rfl (by kernel_rfl) (fun w => eq_inp 9997 x y w)) ?_
      refine ju_bool (fun h24 => ?_) (fun h24 => ?_)
      ·skip
       refine ju_nil ?_
       refine jq_then ?_
       refine jc_true rfl ?_
       refine jsr ?_
       refine jz ?_
       refine jnt ?_
       refine jc_ret ?_
       refine jq_block_ret ?_
       refine jq_then_ret ?_
       refine jq_then_ret ?_
       refine jq_block_ret ?_
       refine jq_then_ret ?_
       refine jq_ret1 rfl rfl ?_
       exact fun _ hw => ⟨congrArg (fun b => Ending.returned (Value.bool b)) ((decide_eq_false (get_ne hlt hlq hxe hye (by first | assumption | simp_all))).symm), hw.ch⟩
      ·skip
       refine ju_nil ?_
       refine jq_then ?_
       refine jc_false rfl ?_
       refine jc_skip ?_
       refine jq_block ?_
       refine jq_then ?_
       refine jc_region ?_
       refine jy (y_add_fits rfl rfl (by simp only [fits]; omega)) ?_
       refine jz ?_
       refine jl_nil ?_
       refine jq_round (i := i) (i + 1) ?_ ?_ ?_
       ·omega
       ·exact ⟨rfl, rfl, rfl, lk_int rfl (by omega), trivial⟩
       ·exact fun _ h => ⟨⟨by omega, take_both hlt hlq hi.2 (by rw [hxe, hye]; first | assumption | simp_all)⟩, h⟩
      )
    ·first
     | (exfalso; omega)
     | (
      refine jnt ?_
      refine jc_seq ?_
      refine jc_false rfl ?_
      refine jc_exit ?_
      refine jq_then_exit ?_
      refine jq_then_exit ?_
      refine jq_hit ?_
      refine jq_then ?_
      refine jsr ?_
      refine jz ?_
      refine jnt ?_
      refine jc_ret ?_
      refine jq_ret1 rfl rfl ?_
      exact fun _ hw => ⟨congrArg (fun b => Ending.returned (Value.bool b)) ((decide_eq_true (by have h1 := hi.2; rwa [List.take_of_length_le (by omega), List.take_of_length_le (by omega)] at h1)).symm), hw.ch⟩
      )
   )

theorem sameOut_any (ad aq : Option Addr) (c d : Nat) (l m : List Oup) (w : World) (hE : ElAt w ad 9 (l.map Oup.c)) (hQ : ElAt w aq 9 (m.map Oup.c)) (hl : l.length ≤ 1000000000) (hm : m.length ≤ 1000000000) :
  Calls Tryz.prog 74 #[.slice ad l.length c, .slice aq m.length d] w fun e w' => e = .returned (.bool (decide (l = m))) ∧ Ch [] w w' := by
 refine calls_of (n := 26) (E := [(0, .slice ad l.length c), (1, .slice aq m.length d)]) (W := Hp w [] []) Tryz.func74 rfl rfl (Nat.le_of_ble_eq_true rfl) rfl (Hp.nil _ _) ?_
 refine jsr ?_
 refine jz ?_
 refine jnt ?_
 refine jc_seq ?_
 refine jsr ?_
 refine jz ?_
 refine jy (y_len_slice rfl) ?_
 refine jz ?_
 refine jy (y_len_slice rfl) ?_
 refine jy (y_neq rfl rfl) ?_
 refine jl_prop (fun h10 => ?_) (fun h10 => ?_)
 ·first
  | (exfalso; omega)
  | (
   refine jnt ?_
   refine jc_true rfl ?_
   refine jsr ?_
   refine jz ?_
   refine jnt ?_
   refine jc_ret ?_
   refine jq_then_ret ?_
   refine jq_ret1 rfl rfl ?_
   exact fun _ hw => ⟨congrArg (fun b => Ending.returned (Value.bool b)) ((decide_eq_false (len_ne (by omega))).symm), hw.ch⟩
   )
 ·first
  | (exfalso; omega)
  | (
   refine jnt ?_
   refine jc_false rfl ?_
   refine jc_skip ?_
   refine jq_then ?_
   refine jc_seq ?_
   refine jsr ?_
   refine jz ?_
   refine jy (y_len_slice rfl) ?_
   refine jz ?_
   refine jnt ?_
   refine jc_block ?_
   refine jc_loop (fun (i : Nat) => [(0, .slice ad l.length c), (1, .slice aq m.length d), (12, .int .i64 l.length), (13, .int .i64 (i : Nat))]) (fun (i : Nat) => fun w' => (i ≤ l.length ∧ l.take i = m.take i) ∧ Hp w [] [] w') (fun (i : Nat) => l.length - i) 0 ?_ ?_ ?_
   ·exact ⟨rfl, rfl, rfl, rfl, trivial⟩
   ·exact fun _ h => ⟨⟨by omega, rfl⟩, h⟩
   ·intro i
    refine jc_and (fun hi => ?_)
    refine jsr ?_
    refine jy (y_lss rfl rfl) ?_
    refine jl_prop (fun h14 => ?_) (fun h14 => ?_)
    ·first
     | (exfalso; omega)
     | (
      have hlt : i < l.length := by omega
      have hlq : i < m.length := by omega
      obtain ⟨bb, oo, ea, hold⟩ := hE.get hlt
      obtain ⟨bq, oq, eq, holq⟩ := hQ.get hlq
      subst ea
      subst eq
      generalize hxe : l[i]'hlt = x at *
      generalize hye : m[i]'hlq = y at *
      refine jnt ?_
      refine jc_seq ?_
      refine jc_true rfl ?_
      refine jc_skip ?_
      refine jq_then ?_
      refine jc_seq ?_
      refine jc_block ?_
      refine jsr ?_
      refine jz ?_
      refine jz ?_
      refine jnt ?_
      refine jc_seq ?_
      refine jc_draw (by kernel_rfl) (fun _ h => h.drew) ?_
      refine juz ?_
      refine juz ?_
      refine juy (y_indexAddr_slice (off := oo + i * 9) rfl rfl (by omega) (by omega) (by omega)) ?_
      refine juy (y_loadAgg_old rfl rfl hold (by simp)) ?_
      refine juz ?_
      refine juz ?_
      refine juy (y_indexAddr_slice (off := oq + i * 9) rfl rfl (by omega) (by omega) (by omega)) ?_
      refine juy (y_loadAgg_old rfl rfl holq (by simp)) ?_
      refine juy (y_neq_agg rfl rfl (by kernel_rfl) (fun w => eq_oup 9998 x y w)) ?_
      refine ju_bool (fun h24 => ?_) (fun h24 => ?_)
      ·skip
       refine ju_nil ?_
       refine jq_then ?_
       refine jc_true rfl ?_
       refine jsr ?_
       refine jz ?_
       refine jnt ?_
       refine jc_ret ?_
       refine jq_block_ret ?_
       refine jq_then_ret ?_
       refine jq_then_ret ?_
       refine jq_block_ret ?_
       refine jq_then_ret ?_
       refine jq_ret1 rfl rfl ?_
       exact fun _ hw => ⟨congrArg (fun b => Ending.returned (Value.bool b)) ((decide_eq_false (get_ne hlt hlq hxe hye (by first | assumption | simp_all))).symm), hw.ch⟩
      ·skip
       refine ju_nil ?_
       refine jq_then ?_
       refine jc_false rfl ?_
       refine jc_skip ?_
       refine jq_block ?_
       refine jq_then ?_
       refine jc_region ?_
       refine jy (y_add_fits rfl rfl (by simp only [fits]; omega)) ?_
       refine jz ?_
       refine jl_nil ?_
       refine jq_round (i := i) (i + 1) ?_ ?_ ?_
       ·omega
       ·exact ⟨rfl, rfl, rfl, lk_int rfl (by omega), trivial⟩
       ·exact fun _ h => ⟨⟨by omega, take_both hlt hlq hi.2 (by rw [hxe, hye]; first | assumption | simp_all)⟩, h⟩
      )
    ·first
     | (exfalso; omega)
     | (
      refine jnt ?_
      refine jc_seq ?_
      refine jc_false rfl ?_
      refine jc_exit ?_
      refine jq_then_exit ?_
      refine jq_then_exit ?_
      refine jq_hit ?_
      refine jq_then ?_
      refine jsr ?_
      refine jz ?_
      refine jnt ?_
      refine jc_ret ?_
      refine jq_ret1 rfl rfl ?_
      exact fun _ hw => ⟨congrArg (fun b => Ending.returned (Value.bool b)) ((decide_eq_true (by have h1 := hi.2; rwa [List.take_of_length_le (by omega), List.take_of_length_le (by omega)] at h1)).symm), hw.ch⟩
      )
   )

end Go.Proofs.YtomhcibbalhgkaaGreat